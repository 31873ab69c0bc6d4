/- Walks and plain laws. -/
import Derived.Test.YtncddkcponjlpaaGreatDoorCards
import Derived.Test.YtncddkcponjlpaaGreatDoorK21
import Derived.Test.YtncddkcponjlpaaGreatDoorK22
set_option linter.unusedVariables false
set_option linter.unusedSectionVars false
set_option linter.unusedSimpArgs false
set_option maxHeartbeats 0
set_option maxRecDepth 99999
namespace Go.Proofs.YtncddkcponjlpaaGreatDoor
open Go.RowKit Go.Proofs.Tryz
open Go renaming World→D!,Value→I?,Calls→G!,IntKind→ncy
open Go.RowKit renaming Hid→E!
open Decidable renaming decide→K?
open Option renaming some→C!,none→L?
open Bool renaming true→C?,false→H!
open Go.Proofs.Tryz renaming prog→E?
variable{P:Prop}
variable{w w1:D!}{G:Nat->Tag}{t:Tag}{s:Nat}{m:aU}
theorem IZ(p n:Int)(w:D!)(G:Nat->Tag)(t:Tag)(f:1<=p/\p<=8)(u:1<=n/\n<=65536):
 G! E? 40 #[A! p,A! n] w (λe r=>∃s,e=.returned (.tuple #[ptr s,A! 0])/\∃o,aY r o t s (sw p n)/\Step (λ_=>False) G w o r):=by
 obtain⟨z,E⟩:=f;obtain⟨j,q⟩:=u;have v:= @mcW E?;go_wp2;go_ret2;have l:K! w<|(w.alloc (.map #[] 0)).alloc (.cells #[A! p,A! n,A! 0,.map<|C! w.heap.size,A! 0] 122):=ak R! _;have d:=(bp.new w).below<|ak U? (.cells #[A! p,A! n,A! 0,.map<|C! w.heap.size,A! 0] 122);have i:=aO.new (w.alloc (.map #[] 0)) 122 #[A! p,A! n,A! 0,.map<|C! w.heap.size,A! 0];have y:(w.alloc (.map #[] 0)).heap.size=w.heap.size+1:=N!;rw[y]at i;have g:=Step.rule (T:=λ_=>False) (G:=G) (Only.aP (S:=λ_=>False) l) (λ_ _ h=>h.elim) λb=>if b=w.heap.size then t++[0]else t
 refine⟨w.heap.size+1,?_,_,⟨w.heap.size,λ_=>0,i,?_,?_,d,λk c hk=>o!⟩,g⟩
 .simp[ptr]
 .show(if _ then _ else _)=_;rw[F! B!,F! B!]
 .show(if _ then _ else _)=_;exact bbB
def Gp(r:aU×Int×Int):Value:=.tuple #[A! r.2.1,A! r.2.2]
theorem Wa(a b:Int)(h:aY w G t s m)(L:Cv m)(O:m.sO<=4611686018427387904*2-1)(a6:m.last<=1099511627776)(H:(a=0/\b=1)\/(a=1/\b=0)):
 G! E? 174 #[ptr s,A! a,A! b] w (Left (λu j=>aY u j t s (lz m a b).1) (aq t) G w<|Gp<|lz m a b):=by
 have ao:=h;obtain⟨f,b5,h⟩:=h;have hs:=λw=>zO a w;have al:=h.blk.k 0;have a3:=h.blk.k 2;have b4:=h.blk.k 3;have a4:=h.blk.k 4;have am:=h.blk.frozen 2;have an:=h.blk.frozen 4;have a8:=λb1=>tW (P:=E?) (w:=w.drew) (h.mm.below (P! _ _).drew) underlying120 b1;simp only[dN]at a8;have a2: -4611686018427387904<=m.sO:=by have:=L.o0;omega
 have a1:=L.l0;have a5:=L.key
 have a9:s≠f:=λe=>by
  have:=h.tm;rw[<-e,h.tag]at this;simp at this
 have D:nM a=C?/\b=1-a:=by rcases H with⟨rfl,rfl⟩|⟨rfl,rfl⟩<;>exact⟨rfl,B!⟩
 rw[D.1]at hs
 have z:E! (lz m a b=if m.aV<=m.up.length then(m,0,2501)else if 0<m.sO then({m with sO:=m.sO-1},0,2503)else({m with last:=m.last+1,up:=bI m.up (m.last+1) kI},m.last+1,0)):=A? (by
  unfold lz;rw[F! (by rintro(e|e)<;>first|(rw[D.1]at e;cases e)|exact e D.2)])
 generalize lz m a b=R at z|-;clear L D;have M:=A? a9;let⟨ab,W⟩:=F? m.aV;let⟨n,X⟩:=F? m.last;let⟨C,a0⟩:=F? m.sO;let⟨ac,F⟩:=F? m.up.length
 have ae:E! (∀c,(n+1,c)∉m.up):=A? (by
  intro c av;have:=(a5 _ _ av).2;omega)
 clear a5;have HE:E!<|m.aV=ab/\m.last=n/\m.sO=C/\m.up.length=ac:=A? ⟨W,X,a0,F⟩;rw[W]at al;rw[X]at a3 a1 a6;rw[a0]at a4 a2 O;rw[F]at a8;clear W X a0 F a9;have N:∀r,R=r->Left (λu j=>aY u j t s r.1) (aq t) G w (Gp r)=Left (λu j=>aY u j t s R.1) (aq t) G w (Gp R):=λr e=>by rw[e]
 have I:=A? N;clear N;by_cases hf:ab<=ac
 .have g:=z.out;rw[G? mdF]at g;rw[<-I _ g];clear g z am an a3 a4 a2 a1 a6 O I;unfold ptr Gp;have q:=b! hf;rcases H with⟨rfl,rfl⟩|⟨rfl,rfl⟩
  all_goals
   go_in
   go_wp2_with fail;apply(hs _).mono;rintro e u ⟨rfl,rfl⟩;go_wp2_with fail;apply gG M? M?
   repeat still_step
   apply Θ;go_wp2;go_ret2;exact⟨rfl,_,ao.drew,aB _ _ _⟩
 by_cases aa:0<C
 .have g:=z.out;rw[F! mdF,G?<|by rw[HE.2.2.1];exact aa,HE.2.2.1]at g;rw[<-I _ g];unfold ptr Gp;have q:=W? hf;rcases H with⟨rfl,rfl⟩|⟨rfl,rfl⟩
  all_goals
   go_in
   go_wp2_with fail;apply(hs _).mono;rintro e u ⟨rfl,rfl⟩;go_wp2_with fail;apply gG M? M?
   repeat still_step
   apply Θ;go_wp2;go_ret2;have O:=((Only.refl (λk=>k=s) u).set (a:=B? s 4) (.inl rfl)<|A!<|C-1).drew;exact⟨rfl,h.E8 (m':={m with sO:=C-1}) (O.mono λk _ e=>.inl e) (h.blk.set 4 _ rfl) (h.mm.only O λ(e:f=s)=>M e.symm) λk b3 ax=>ax⟩
 .have g:=z.out;rw[F! mdF,F!<|by rw[HE.2.2.1];exact aa,HE.2.1]at g;rw[<-I _ g];unfold ptr Gp;have q:=W? hf;rcases H with⟨rfl,rfl⟩|⟨rfl,rfl⟩
  all_goals
   go_in
   go_wp2_with fail;apply(hs _).mono;rintro e u ⟨rfl,rfl⟩;go_wp2_with fail;apply gG M? M?
   repeat still_step
   apply Θ;have E:J? (u.setCell (B? s 2)<|A!<|n+1) s 2<|n+1:=(h.blk.set 2 (A!<|n+1) (cs':=mE f {m with last:=n+1}) rfl).cell 2;have A:L! (u.setCell (B? s 2)<|A!<|n+1) s 3 (.map<|C! f):=(h.blk.set 2 (A!<|n+1) (cs':=mE f {m with last:=n+1}) rfl).cell 3;go_wp2;refine dW (λu=>J? u s 2 (n+1)/\L! u s 3 (.map<|C! f)) (zcb [9,2]) (⟨E,A⟩) ?_;refine tK ?_;let⟨y,B⟩:=F?<|(u.setCell (B? s 2)<|A!<|n+1).drew.drew;have J:Only (λk=>k=s) u y:=by rw[<-B];exact(((Only.refl (λk=>k=s) u).set (a:=B? s 2) (.inl rfl)<|A!<|n+1).drew).drew
   have V:aO y s 122<|mE f {m with last:=n+1}:=by rw[<-B];exact h.blk.set 2 (A!<|n+1) rfl
   rw[B];have a7:=h.mm.only J λ(e:f=s)=>M e.symm;have b0:=J.size;refine ai λag Y=>?_;go_wp2_with fail;have E:=(V.below<|ak U? (.cells xam 168)).cell 2;have A:=(V.below<|ak U? (.cells xam 168)).cell 3;refine O! Y ⟨E,A⟩ ?_;refine ai λag Y=>?_;go_wp2_with(refine eD rfl _ _ _ rfl underlying120 underlying3 (n+1) (ptr y.heap.size) (a7.below R!) rfl rfl rfl λad ap Z b6=>?_);have az:Only (λk=>k=s\/k=f) u ad:=((J.mono λk _ e=>.inl e).alloc _).trans<|Z.mono λk _ e=>.inr e;have K:=(V.below<|ak U? (.cells xam 168)).only Z λ(e:s=f)=>M e;have ar:=(aO.new y 168 xam).only Z λ(e:y.heap.size=f)=>by have:=a7.lt;omega
   have N:=h.add (m':={m with last:=n+1,up:=bI m.up (n+1) kI}) (n+1) az K rfl y.heap.size b0 ar ap<|ae;have E:J? ad s 2<|n+1:=K.k 2;have A:=K.cell 3;refine O! Y ⟨E,A⟩ ?_;have b2:=A? N;apply aj;go_wp2;go_ret2;exact⟨rfl,b2⟩
def ae6(c:Int):Int:=if c=5 then 10 else if c=6 then 11 else if c=7\/c=8 then 13 else if c=9\/c=10\/c=11 then 15 else 12
theorem Ov(p q:Nat)(b y:I?)(r:cL)(w:D!)(g:cl w q b y r)(e:r.p.code≠1/\r.p.code≠2/\r.p.code≠3/\r.p.code≠4):
 G! E? 223 #[P? p,P? q] w (T! w (.tuple #[A!<|ae6 r.p.code,H? C?])):=by
 let⟨i,v,k,j,z,E,A⟩:=g.cells;generalize r.p.code=c at i e|-;obtain⟨n,l,d,u⟩:=e;have O:=Q?.2 n;have S:=Q?.2 l;have R:=Q?.2 d;have H:=Q?.2 u;by_cases f:c=5\/c=6\/c=7\/c=8\/c=9\/c=10\/c=11
 .rcases f with rfl|rfl|rfl|rfl|rfl|rfl|rfl
  all_goals
   exact ma6
 .have L:(c==5)=false:=Q?.2 B!;have D:(c==6)=false:=Q?.2 B!;have C:(c==7)=false:=Q?.2 B!;have M:(c==8)=false:=Q?.2 B!;have F:(c==9)=false:=Q?.2 B!;have I:(c==10)=false:=Q?.2 B!;have N:(c==11)=false:=Q?.2 B!;have o:=A? (show ae6 c=12 by unfold ae6;rw[F! B!,F! B!,F! B!,F! B!]);go_wp2;go_ret2;rw[o.out];exact⟨rfl,rfl⟩
theorem ZH{w:D!}{q:Nat}{i l:I?}{r:cL}(h:cl w q i l r)(o:Int)(e:I?)(os:List bD):cl ((w.setCell (B? q 5)<|A! o).setCell (B? q 6) e) q i e {r with verdict:=o,os:=os}:=by
 have n:=ba4 w q 5 _ 246 (A! o) h;exact ba4 _ q 6 _ 246 e n
theorem Wl(p t q:Nat)(o po ov:I?)(s:cu)(r:cL)(w:D!)(h:bJ w p t o s)(hm:jL s.own=C?)(H:cl w q po ov r)(a5:aI w po r.p.opts)(hn:r.p.opts.length<=1000000)(ag:q≠p)(ad:r.p.code=1):
 G! E? 223 #[P? p,P? q] w λe f=>∃a6,e=.returned (.tuple #[A! (if(gT s.own r.p.opts).1=0 then 6 else 7),H? C?])/\cl f q po a6 {r with verdict:=(gT s.own r.p.opts).1,os:=(gT s.own r.p.opts).2.1}/\bq dS f w.heap.size a6 (gT s.own r.p.opts).2.1/\Only (· =q) w f:=by
 have ao:=H.lt;have O:=Rc s.own po r.p.opts w.drew hm (a5.below (P! _ _).drew) hn;obtain⟨a8,a9,rfl,an,ap⟩:=aD.form a5;let⟨ac,ax,D,az,b0,b1,b2⟩:=H.cells;let⟨C,M,F,Y,B,V⟩:=h.owns;rw[ad]at ac;generalize gT s.own r.p.opts=ab at O|-;obtain⟨u,y,b5⟩:=ab;unfold aC at O;dsimp only at O|-;generalize s.own=I at O C M F Y B V;generalize r.p.opts.length=a7 at D O H|-;go_wp2;refine dW (λf=>J? f p 4 I.iO/\J? f p (4+1) I.aH/\J? f p (4+2) I.cW/\L! f p (4+3) (H? I.short)/\L! f p (4+4) (D? I.dh)/\J? f p (4+5) I.num/\L! f q 2 (J! a8 a7 a9)) (zcb [11,1,6,1,2,1]) ⟨C,M,F,Y,B,V,D⟩ ?_;refine R? ?_;intro a4 N;go_wp2_with(go_at_call 256;apply O.mono;rintro e w1 ⟨b6,rfl,X,K⟩;obtain⟨z,E,rfl,ar,av⟩:=aD.form X.at);have g:=λ{a:Addr} {v:I?} (h:w.cell? a=C! v)=>af (W:=w.drew) K h;have a2:=g C;have j1:=g M;have j2:=g F;have j3:=g Y;have j4:=g B;have a3:=g V;have al:=g D;refine O! N ⟨a2,j1,j2,j3,j4,a3,al⟩ ?_;refine tK ?_;have J:=cl.below (w:=w.drew) H K;have Z:cl (w1.setCell (B? q 5)<|A! u) q (J! a8 a7 a9) ov {r with verdict:=u}:=ba4 w1 q 5 _ 246 (A! u) J;have b9:=J.frozen 5;have n:¬p=q:=λe=>ag e.symm;have A:=ay w1 q 5<|A! u;refine ai λa4 N=>?_;go_wp2_with fail;refine O! N ⟨A.cell (a:=B? p 4) a2 n,A.cell (a:=B? p<|4+1) j1 n,A.cell (a:=B? p<|4+2) j2 n,A.cell (a:=B? p<|4+3) j3 n,A.cell (a:=B? p<|4+4) j4 n,A.cell (a:=B? p<|4+5) a3 n,Z.cell 2⟩ ?_;refine tK ?_;have b8:=Z.k 6;have ba:=Z.frozen 6;have j:=A.trans<|ay (w1.setCell (B? q 5)<|A! u) q 6<|J! z y.length E;have R:=ZH J u (J! z y.length E) y;have a1:bq dS ((w1.setCell (B? q 5)<|A! u).setCell (B? q 6)<|J! z y.length E) w.heap.size (J! z y.length E) y:=bq.only X j λk ae e=>by have b3:=X.block k ae;have b4:w.drew.heap.size=w.heap.size:=rfl;omega
 have L:=((Only.refl (· =q) w).drew.then (w1:=w.drew) K).trans j;refine ai λa4 N=>?_;go_wp2_with fail;refine O! N ⟨j.cell (a:=B? p 4) a2 n,j.cell (a:=B? p<|4+1) j1 n,j.cell (a:=B? p<|4+2) j2 n,j.cell (a:=B? p<|4+3) j3 n,j.cell (a:=B? p<|4+4) j4 n,j.cell (a:=B? p<|4+5) a3 n,R.cell 2⟩ ?_;refine T? ?_;have am:J? ((w1.setCell (B? q 5)<|A! u).setCell (B? q 6)<|J! z y.length E) q 5 u:=R.k 5;generalize (w1.setCell (B? q 5)<|A! u).setCell (B? q 6) (J! z y.length E)=W at am R a1 L|-;by_cases a0:u=0
 .subst a0;go_wp2;go_ret2;exact⟨rfl,J! z y.length E,R,a1,L⟩
 .have b7:=Q?.2 a0;have aa:=A? a0;go_wp2;go_ret2;exact⟨by first|rfl|(rw[F! aa.out];rfl),.slice z y.length E,R,a1,L⟩
theorem aac(c0 c1 c2 c3:UInt8)(r:List UInt8)(w:D!)(a4:r.length<=4611686018427387904)(h:¬(c0.toNat<1\/4<c0.toNat\/cB (c0::c1::c2::c3::r)<4\/r.length+4<cB (c0::c1::c2::c3::r)))(u:fR (c0.toNat:Int)=C?):
 G! E? 159 #[D?<|bytesOf (c0::c1::c2::c3::r)] w (S? w<|ic<|iG (c0::c1::c2::c3::r)):=by
 have HM:=A?<|CJ h;rw[u,G? rfl]at HM;let⟨a5,Y,B,K,X,L,C,M,F,A,y⟩:=CI c0 c1 c2 c3 r;have i:=DA (c0:=c0) (c1:=c1) (c2:=c2) (c3:=c3) (r:=r) B! B!;have n:=pM (c0::c1::c2::c3::r) 4<|cB (c0::c1::c2::c3::r);rw[show List.drop 4 _=lZ c0 c1 c2 c3 r from rfl]at n;generalize cB (c0::c1::c2::c3::r)=N at A y h i n;generalize lZ c0 c1 c2 c3 r=R at i n HM;have E:=aA R;have a3:K? ((r.length:Int)+4<4)=false:=W? B!;have J:¬c0.toNat<1:=B!;have Z:¬4<c0.toNat:=B!;have a0:¬N<4:=B!;have a1:¬r.length+4<N:=B!;have CK:=λw=>wM (c0.toNat:Int) w;rw[u]at CK;cases R with
 |nil=>
  rw[G? (.inl rfl)]at HM;have q:(bytesOf ([]:List UInt8)).toList=[]:=(dG _).trans rfl;exact mdK
 |cons b o=>
  have q:(bytesOf (b::o)).toList=b::o:=(dG _).trans rfl;have a7:∀h,(bytesOf (b::o))[0]'h=b:=λ_=>rfl;have a2:=b.toNat_lt;rw[V!]at i E;have H:o.length<=65535:=B!;simp only[baP,V!,na6,reduceCtorEq,false_or]at HM;by_cases l:b.toNat=0
  .rw[G? (.inl l)]at HM;have O:((b.toNat:Int)==0)=true:=by rw[κ];omega
   exact mdK
  .have a8:(b==0)=false:=by rw[Q?];intro e;exact l (by rw[e];rfl)
   have O:((b.toNat:Int)==0)=false:=by rw[Q?];omega
   by_cases c:o.length<b.toNat
   .rw[G? (.inr c)]at HM;exact mdK
   .rw[F!<|by rintro(e|e);exact l e;exact c e]at HM;have I:=pM (b::o) 1<|1+b.toNat;have S:=za (b::o) (1+b.toNat) (o.length+1) rfl;let⟨V,j⟩:=F?<|((b::o).take<|1+b.toNat).drop 1;let⟨D,g⟩:=F?<|(b::o).drop<|1+b.toNat;rw[j]at I HM;rw[g]at S HM;have a6:=aA D;by_cases d:253<D.length
    .rw[G? d]at HM;have z:K? ((253:Int)<(D.length:Int))=true:=b! B!;go_wp2;go_region;go_wp2;go_region;go_wp2_with fail;apply(CK _).mono;rintro e w' ⟨rfl,rfl⟩;go_wp2;go_region;go_wp2;exact V? (v:=ic (gM,601)) mei rfl ⟨ϯ,ϕ⟩
    .rw[F! d]at HM;have z:K? ((253:Int)<(D.length:Int))=false:=W? B!;go_wp2;go_region;go_wp2;go_region;go_wp2_with fail;refine d! (CK _) ?_;go_wp2;go_region;go_wp2;exact V? (v:=ic (⟨(c0.toNat:Int),(c1.toNat:Int),bytesOf V,bytesOf D⟩,0)) mei rfl ⟨ϯ,ϕ⟩
theorem aad(l:List UInt8)(w:D!)(hl:l.length<=4611686018427387904):G! E? 159 #[D?<|bytesOf l] w (S? w<|ic<|iG l):=by
 by_cases h:l.length<4
 .exact WE l w h
 match l,h,hl with
 |e::i::n::d::r,_,hl=>
  have u:r.length<=4611686018427387904:=maC;by_cases c:e.toNat<1\/4<e.toNat\/cB (e::i::n::d::r)<4\/r.length+4<cB (e::i::n::d::r)
  .exact ZT e i n d r w u c
  cases f:fR (e.toNat:Int)
  .exact RX e i n d r w u c f
  .exact aac e i n d r w u c f
 |[],o,_=>simp at o
 |[_],o,_=>simp at o
 |[_,_],o,_=>simp at o
 |[_,_,_],o,_=>simp at o
theorem mM(w1:D!)(p:Nat)(e o i n:I?):Only (· =p) w1<|(((w1.setCell (B? p 0) e).setCell (B? p 1) o).setCell (B? p 2) i).setCell (B? p 3) n:=
 ((((Only.refl (λk=>k=p) w1).set (.inl rfl) e).set (.inl rfl) o).set (.inl rfl) i).set (.inl rfl) n
theorem wP(b:cR)(v:I?)(w:D!)(N:aI w v b.opts)(F:b.opts.length*24<=140737488355328):
 G! E? 217 #[.agg<|iC b v] w λe K=>∃L,e=.returned (.agg<|iC b L)/\bq dS K w.heap.size L b.opts/\K! w K:=by
 obtain⟨A,S,E,g⟩:=b;obtain⟨D,C,rfl,a8,a9⟩:=aD.form N;unfold iC;simp only at N F|-;have X:=A? λw h=>qx (J! D g.length C) g w h F;go_in;go_wp2_with fail;let⟨W,hW⟩:=F?<|(w.alloc (.cells #[A! A,A! S,A! E,J! D g.length C] 157)).alloc (.cells xae 157);have z:K! w W:=md3;have y:aO W w.heap.size 157 #[A! A,A! S,A! E,J! D g.length C]:=bay;have n:aO W (w.heap.size+1) 157 xae:=bbE;rw[hW];have a7:=n.lt;refine(X _<|N.below z).mono ?_;rintro e w1 ⟨⟨L,rfl,I⟩,O⟩;obtain⟨R,H,rfl,-,-⟩:=aD.form I.at;replace y:=y.below O;replace n:=n.below O;have M:=z.trans<|O.mono z.size;have a2:=I.base z.size
 have B:∀k,(Value.slice R g.length H).ownBlock=C! k->k≠w.heap.size/\k≠w.heap.size+1:=λk j=>by
  have:=I.block k j;omega
 have Y:∀x d u f l:I?,Only (λk=>k=w.heap.size\/k=w.heap.size+1) w1<|((((w1.setCell (B? w.heap.size 3) x).setCell (B? (w.heap.size+1) 0) d).setCell (B? (w.heap.size+1) 1) u).setCell (B? (w.heap.size+1) 2) f).setCell (B? (w.heap.size+1) 3) l:=λx d u f l=>
  ((ay w1 w.heap.size 3 x).mono λk _ e=>.inl e).trans ((mM _ (w.heap.size+1) d u f l).mono λk _ e=>.inr e)
 have V:E! (∀x d u f l:I?,bq dS (((((w1.setCell (B? w.heap.size 3) x).setCell (B? (w.heap.size+1) 0) d).setCell (B? (w.heap.size+1) 1) u).setCell (B? (w.heap.size+1) 2) f).setCell (B? (w.heap.size+1) 3) l) w.heap.size (J! R g.length H) g/\K! w (((((w1.setCell (B? w.heap.size 3) x).setCell (B? (w.heap.size+1) 0) d).setCell (B? (w.heap.size+1) 1) u).setCell (B? (w.heap.size+1) 2) f).setCell (B? (w.heap.size+1) 3) l)):=A? λx d u f l=>
  ⟨a2.only (Y x d u f l) (λk j a1=>by rcases a1 with e|e;exact(B k j).1 e;exact(B k j).2 e),M.trans<|(Y x d u f l).below M.size λk j=>by rcases j with rfl|rfl<;>omega⟩
 have a3:=y.k 0;have a4:=y.k 1;have a5:=y.k 2;have a6:=y.k 3;have J:=n.k 0;have Q:=n.k 1;have Z:=n.k 2;have a0:=n.k 3;have l:=y.frozen 3;have aa:=n.frozen 0;have ab:=n.frozen 1;have ac:=n.frozen 2;have ad:=n.frozen 3;go_wp2;exact V? (v:=.agg #[A! A,A! S,A! E,J! R g.length H]) (by simp[results,results217,go_sem,J,Q,Z,a0]) rfl ⟨_,rfl,(V _ _ _ _ _).1,(V _ _ _ _ _).2⟩
def gF(w:D!)(b:Nat)(e o:I?)(m:dD):Prop:=aO w b 161<|kM e o m
theorem rD{b:Nat}{d u:I?}{m:dD}{w:D!}(h:gF w b d u m):G! E? 82 #[ptr b] w (T! w<|H?<|gi m):=by
 have f:=h.k 4;unfold ptr gi;by_cases l:0<m.left
 .have n:=A? (b! l);go_wp2;go_ret;exact⟨by first|rfl|(rw[n.out];rfl),rfl⟩
 .have n:=A? (W? l);go_wp2;go_ret;exact⟨by first|rfl|(rw[n.out];rfl),rfl⟩
theorem Pj(i:Bool)(o:Int)(w:D!)(r:1<=o/\o<=10):
 G! E? 73 #[H? i,A! o] w λe n=>e=.returned (.tuple #[ptr w.heap.size,A! 0])/\gF n w.heap.size Q! Q! (Cf i o)/\K! w n:=by
 obtain⟨h,l⟩:=r;go_wp2;go_ret2;exact⟨rfl,c! _ _,R!⟩
def pR(w:D!)(e:Nat)(v:I?)(l:List K4):Prop:=bq Cj w e v l/\∀x∈l,bq dS w e (J! x.2.1 x.1.opts.length x.2.2) x.1.opts
def qT(b:Nat)(i n:I?)(r:dD×List cR)(w:D!)(e:Ending)(o:D!):Prop:=∃v l,e=.returned v/\pR o w.heap.size v l/\l.map (·.1)=r.2/\gF o b i n r.1/\Only (· =b) w o
section
variable{b:Nat}{oa ol v:I?}{m:dD}{d:cR}{w:D!}(yes:Bool)(h:gF w b oa ol m)(hv:aI w v d.opts)(hL:d.opts.length*24<=140737488355328)(hl:0<=m.left/\m.left<=10)(hd:1<=d.code/\d.code<=8)(pS:∀k,v.ownBlock=C! k->k≠b)
include yes h hv hL hl hd pS
theorem U1(hn:m.left=0\/fO m.ask.code=H!):
 G! E? 241 #[ptr b,.agg<|iC d v,H? yes] w (qT b oa ol (m,[⟨d.code+1,d.id,if yes then 0 else 1,d.opts⟩]) w):=by
 obtain⟨O,I⟩:=hl;obtain⟨C,F⟩:=hd;have D:=h.lt;have HC:=A? λw h=>qx v d.opts w h hL;have HV:=A? hv;have N:=A? pS;clear pS;obtain⟨va,vc,rfl,-,-⟩:=aD.form hv;obtain⟨code,id,answer,os⟩:=d;simp only at*
 have y:K! w<|w.alloc (.cells #[A! code,A! id,A! answer,J! va os.length vc] 157):=R!;have z:=aO.new w 157 #[A! code,A! id,A! answer,J! va os.length vc];have HB:=A? y;have HX:=A? z;have H:=A? h;unfold iC;simp only;have E:=h.k 4;have L:=h.k 0;have n:=A? λw=>kV m.ask.code w
 have A:m.left=0\/(0<m.left/\fO m.ask.code=H!):=by
  by_cases e:m.left=0
  .exact .inl e
  .exact .inr ⟨B!,hn.resolve_left e⟩
 let⟨M,u⟩:=F? m;have HM:=A? (show gF w b oa ol M by rw[<-u];exact h);rw[show(qT b oa ol (m,[⟨code+1,id,if yes then 0 else 1,os⟩]) w)=qT b oa ol (M,[⟨code+1,id,if yes then 0 else 1,os⟩]) w by rw[u]];clear h hv y z hn u;rcases A with g|⟨g,j⟩
 .rw[g]at E;clear g O I n;unfold ptr;cases yes<;>simp only[η,t!,q?]
  .go_in
   go_wp2_with fail;exact nbO
  .go_in
   go_wp2_with fail;exact nbB
 .rw[j]at n;clear j;unfold ptr;cases yes<;>simp only[η,t!,q?]
  .go_in
   go_wp2_with(go_at_call 220;apply(n _).mono;rintro e Y ⟨rfl,rfl⟩);exact nbO
  .go_in
   go_wp2_with(go_at_call 220;refine d! (n _) ?_);exact nbB
theorem XM(D:0<m.left)(O:fO m.ask.code=C?)(A:sN m.aX m.ask.code d.code=C?):
 G! E? 241 #[ptr b,.agg<|iC d v,H? yes] w (qT b oa ol (m,[⟨d.code+1,d.id,1,d.opts⟩]) w):=by
 obtain⟨C,F⟩:=hl;obtain⟨J,Z⟩:=hd;have X:=h.lt;have HC:=A? λw h=>qx v d.opts w h hL;have Y:=A? pS;clear pS;obtain⟨va,vc,rfl,-,-⟩:=aD.form hv;obtain⟨code,id,n,os⟩:=d;simp only at*
 have u:K! w<|w.alloc (.cells #[A! code,A! id,A! n,J! va os.length vc] 157):=R!;have z:=aO.new w 157 #[A! code,A! id,A! n,J! va os.length vc];unfold iC;simp only;have N:=h.k 4;have I:=h.k 0;have H:=h.k 5;have g:=A? λw=>kV m.ask.code w;have y:=A? λw=>Eb m.aX m.ask.code code w;rw[O]at g;rw[A]at y;let⟨M,j⟩:=F? m;have E:=A? (show gF w b oa ol M by rw[<-j];exact h);rw[show(qT b oa ol (m,[⟨code+1,id,1,os⟩]) w)=qT b oa ol (M,[⟨code+1,id,1,os⟩]) w by rw[j]];generalize m.left=L at N D C F;clear j O A;have a2:=z.k 0;have B:=af u I;have V:=af u H;unfold ptr;cases yes
 .go_in
  go_wp2_with(go_at_call 220;apply(g _).mono;rintro e a1 ⟨rfl,rfl⟩);apply mQ 12 M? M?;simp only[bbZ,bbg,baF,ba2]
  repeat still_step
  apply Θ;go_wp2_with(go_at_call 271;apply(y _).mono;rintro e a0 ⟨rfl,rfl⟩);let⟨W,hW⟩:=F?<|(w.alloc (.cells #[A! code,A! id,A! n,J! va os.length vc] 157)).drew;have Ik:gF W b oa ol M:=by rw[<-hW];exact aO.below E u.drew
  have uO:Only (· =b) w W:=by rw[<-hW];exact((Only.refl _ _).alloc _).drew
  have Il:aI W (J! va os.length vc) os:=by rw[<-hW];exact hv.below u.drew
  have wW:aO W w.heap.size 157 #[A! code,A! id,A! n,J! va os.length vc]:=by rw[<-hW];exact z
  rw[hW];have y0:=wW.k 0;have y1:=wW.k 1;have y3:=wW.k 3;clear hW wW;refine dW (λw'=>J? w' w.heap.size 0 code/\J? w' w.heap.size 1 id/\L! w' w.heap.size 3 (J! va os.length vc)) (zcb [8,1,1,1,1]) (⟨y0,y1,y3⟩) ?_;refine R? ?_;intro K hK;go_wp2_with(go_at_call 219;refine(HC _<|Il.below (P! _ _).drew).mono ?_;rintro e w3 ⟨⟨v',rfl,hown⟩,hb⟩;obtain⟨ua,uc,rfl,-,-⟩:=aD.form hown.at);refine O! hK ⟨af hb y0,af hb y1,af hb y3⟩ ?_;clear hK K;refine tK ?_;have i0:=af hb y0;have i1:=af hb y1;have i3:=af hb y3;have hM3:gF w3 b oa ol M:=aO.below (aO.below Ik (P! _ _).drew) hb;have hO3:=uO.drew.then hb;have ez:=hown.base<|show w.heap.size<=_ from uO.size;clear y0 y1 y3 hb hown Ik uO Il;refine ai λK hK=>?_;go_wp2_with fail;have hb2:K! w3<|w3.alloc (.cells #[A!<|code+1,A! id,A! 1,J! ua os.length uc] 157):=R!;refine O! hK ⟨af hb2 i0,af hb2 i1,af hb2 i3⟩ ?_;clear hK K;exact naR
 .go_in
  go_wp2_with(go_at_call 220;refine d! (g _) ?_);apply mQ 12 M? M?;simp only[bbZ,bbg,baF,ba2]
  repeat still_step
  apply Θ;go_wp2_with(go_at_call 271;refine d! (y _) ?_);let⟨W,hW⟩:=F?<|(w.alloc (.cells #[A! code,A! id,A! n,J! va os.length vc] 157)).drew;have Ik:gF W b oa ol M:=by rw[<-hW];exact aO.below E u.drew
  have uO:Only (· =b) w W:=by rw[<-hW];exact((Only.refl _ _).alloc _).drew
  have Il:aI W (J! va os.length vc) os:=by rw[<-hW];exact hv.below u.drew
  have wW:aO W w.heap.size 157 #[A! code,A! id,A! n,J! va os.length vc]:=by rw[<-hW];exact z
  exact ncJ
theorem TD(O:0<m.left)(N:fO m.ask.code=C?)(I:sN m.aX m.ask.code d.code=H!):
 G! E? 241 #[ptr b,.agg<|iC d v,H? yes] w (qT b oa ol ({m with left:=0},[⟨d.code+1,d.id,if yes then 0 else 1,d.opts⟩]) w):=by
 obtain⟨D,C⟩:=hl;obtain⟨X,J⟩:=hd;have V:=h.lt;have HC:=A? λw h=>qx v d.opts w h hL;have Yl:=A? pS;obtain⟨va,vc,rfl,-,-⟩:=aD.form hv;obtain⟨code,id,answer,os⟩:=d;simp only at*
 have j:K! w<|w.alloc (.cells #[A! code,A! id,A! answer,J! va os.length vc] 157):=R!;have H:=aO.new w 157 #[A! code,A! id,A! answer,J! va os.length vc];unfold iC;simp only;have E:=h.k 4;have z:=h.k 0;have A:=h.k 5;have B:=h.frozen 4;have n:=A? λw=>kV m.ask.code w;have u:=A? λw=>Eb m.aX m.ask.code code w;rw[N]at n;rw[I]at u;let⟨M,y⟩:=F? ({m with left:=0}:dD);have g:=A? (show gF (w.setCell (B? b 4)<|A! 0) b oa ol M by rw[<-y];exact aO.set h 4 (A! 0) rfl);rw[show(qT b oa ol ({m with left:=0},[⟨code+1,id,if yes then 0 else 1,os⟩]) w)=qT b oa ol (M,[⟨code+1,id,if yes then 0 else 1,os⟩]) w by rw[y]];generalize m.left=L at E O D C;have a1:=H.k 0;have F:=af j z;have Y:=af j A;unfold ptr;cases yes
 .go_in
  go_wp2_with(go_at_call 220;apply(n _).mono;rintro e a0 ⟨rfl,rfl⟩);apply mQ 12 M? M?;simp only[bbZ,bbg,baF,ba2]
  repeat still_step
  apply Θ;go_wp2_with(go_at_call 271;apply(u _).mono;rintro e Z ⟨rfl,rfl⟩);let⟨W,hW⟩:=F?<|((w.setCell (B? b 4)<|A! 0).alloc (.cells #[A! code,A! id,A! answer,J! va os.length vc] 157)).drew;have Ik:gF W b oa ol M:=by rw[<-hW];exact aO.below g R!.drew
  have uO:Only (· =b) w W:=by rw[<-hW];exact((ay w b 4 _).alloc _).drew
  have Il:aI W (J! va os.length vc) os:=ncZ
  have wW:aO W w.heap.size 157 #[A! code,A! id,A! answer,J! va os.length vc]:=by
   exact naK
  exact ncJ
 .go_in
  go_wp2_with(go_at_call 220;refine d! (n _) ?_);apply mQ 12 M? M?;simp only[bbZ,bbg,baF,ba2]
  repeat still_step
  apply Θ;go_wp2_with(go_at_call 271;refine d! (u _) ?_);let⟨W,hW⟩:=F?<|((w.setCell (B? b 4)<|A! 0).alloc (.cells #[A! code,A! id,A! answer,J! va os.length vc] 157)).drew;have Ik:gF W b oa ol M:=by rw[<-hW];exact aO.below g R!.drew
  have uO:Only (· =b) w W:=by rw[<-hW];exact((ay w b 4 _).alloc _).drew
  have Il:aI W (J! va os.length vc) os:=ncZ
  have wW:aO W w.heap.size 157 #[A! code,A! id,A! answer,J! va os.length vc]:=by
   exact naK
  rw[hW];have y0:=wW.k 0;have y1:=wW.k 1;have y3:=wW.k 3;refine dW (λw'=>J? w' w.heap.size 0 code/\J? w' w.heap.size 1 id/\L! w' w.heap.size 3 (J! va os.length vc)) (zcb [8,1,1,1,1]) (⟨y0,y1,y3⟩) ?_;refine R? ?_;intro K hK;go_wp2_with(go_at_call 219;refine(HC _<|Il.below (P! _ _).drew).mono ?_;rintro e w3 ⟨⟨v',rfl,hown⟩,hb⟩;obtain⟨ua,uc,rfl,-,-⟩:=aD.form hown.at);refine O! hK ⟨af hb y0,af hb y1,af hb y3⟩ ?_;refine tK ?_;have i0:=af hb y0;have i1:=af hb y1;have i3:=af hb y3;have hM3:gF w3 b oa ol M:=aO.below (aO.below Ik (P! _ _).drew) hb;have hO3:=uO.drew.then hb;have ez:=hown.base<|show w.heap.size<=_ from uO.size;refine ai λK hK=>?_;go_wp2_with fail;have hb2:K! w3<|w3.alloc (.cells #[A!<|code+1,A! id,A! 0,J! ua os.length uc] 157):=R!;refine O! hK ⟨af hb2 i0,af hb2 i1,af hb2 i3⟩ ?_;refine T? ?_;have HO:=A?<|bq.one Cj w3 ((⟨code+1,id,0,os⟩:cR),ua,uc) w.heap.size hO3.size;have TC:=A?<|ez.below hb2;have HM3:=A?<|aO.below hM3 hb2;have HO3:=A?<|hO3.then hb2;exact nb5
theorem aby:
 G! E? 241 #[ptr b,.agg<|iC d v,H? yes] w (qT b oa ol (eW m d yes) w):=by
 by_cases i:0<m.left
 .cases o:fO m.ask.code
  .have e:eW m d yes=(m,[⟨d.code+1,d.id,if yes then 0 else 1,d.opts⟩]):=by unfold eW;simp[o]
   rw[e];exact U1 yes h hv hL hl hd pS (.inr o)
  .cases n:sN m.aX m.ask.code d.code
   .have e:eW m d yes=({m with left:=0},[⟨d.code+1,d.id,if yes then 0 else 1,d.opts⟩]):=by unfold eW;simp[o,n,i]
    rw[e];exact TD yes h hv hL hl hd pS i o n
   .have e:eW m d yes=(m,[⟨d.code+1,d.id,1,d.opts⟩]):=by unfold eW;simp[o,n,i]
    rw[e];exact XM yes h hv hL hl hd pS i o n
 .have e:eW m d yes=(m,[⟨d.code+1,d.id,if yes then 0 else 1,d.opts⟩]):=by unfold eW;simp[i]
  rw[e];exact U1 yes h hv hL hl hd pS (.inl B!)
end
def vX(b:Nat)(n h:I?)(m:dD)(r:dD×List cR×Int)(w:D!)(e:Ending)(o:D!):Prop:=
 ∃v l i,e=.returned (.tuple #[v,A! r.2.2])/\pR o w.heap.size v l/\l.map (·.1)=r.2.1/\gF o b n i r.1/\((i=h/\r.1.last=m.last)\/(v=Q!/\bq dS o w.heap.size i r.1.last.opts))/\Only (· =b) w o
theorem pR.nil(w:D!)(n:Nat):pR w n Q! []:=⟨bq.nil _ _ _,λx hx=>ϭ⟩
theorem pR.base{w:D!}{n k:Nat}{v:I?}{l:List K4}(h:pR w n v l)(e:k<=n):pR w k v l:=⟨h.1.base e,λx o=>(h.2 x o).base e⟩
theorem Kt:∀e:List bD,e.length<=(e.flatMap Dl).length
 |[]=>N!
 |o::e=>by
  rw[ϐ,X!,V!];have:=Kt e;have:1<=(Dl o).length:=by unfold Dl;simp
  omega
theorem PM{e:List bD}(h:(cA e).2=0):e.length<=2048:=by
 have i:=yO e
 have l:(cA e).1=jh e e.length:=by
  unfold cA at h|-;by_cases n:e.any (λo=>K? (o.1<0)||K? (255<o.1))=C?
  .rw[G? n]at h;cases h
  .rw[F! n]at h|-;by_cases r:(List.range e.length).any (nY e)=C?
   .rw[G? r]at h;cases h
   .rw[F! r]
 rw[l]at i;unfold jh at i;rw[v!]at i;have:=Kt e;omega
theorem Jl(m:dD)(d:cR)(e:Bool):(eW m d e).1.last=m.last:=by
 unfold eW;dsimp only;split<;>rfl
theorem vY{b:cR}(h:(dJ b).2=0):1<=b.code/\b.code<=8/\0<=b.id/\b.id<=255/\b.opts.length*24<=140737488355328:=by
 by_cases i:zq b
 .rw[Hj i]at h;cases h
 .have o:eV b.code b.id=true:=by
   cases e:eV b.code b.id
   .exact absurd (.inl e) i
   .rfl
  have n:(cA b.opts).2=0:=by
   by_cases e:(cA b.opts).2=0
   .exact e
   .exact absurd (.inr (.inr (.inr (.inr e)))) i
  unfold eV dw at o;simp at o;refine⟨o.1.1,o.1.2,o.2.1,o.2.2,?_⟩;have:=PM n;omega
section
variable{b:Nat}{oa ol v:I?}{m:dD}{d:cR}{w:D!}(yes:Bool)(h:gF w b oa ol m)(hv:aI w v d.opts)(hl:0<=m.left/\m.left<=10)(pS:∀k,v.ownBlock=C! k->k≠b)
include yes h hv hl pS
theorem TE(i:(dJ d).2≠0):
 G! E? 204 #[ptr b,.agg<|iC d v,H? yes] w (vX b oa ol m (m,[],2200) w):=by
 have e:=A? λw h=>tC d v w h;have z:=A? pS;clear pS;obtain⟨y,j,rfl,-,-⟩:=aD.form hv;obtain⟨r,c,n,u⟩:=d;generalize dJ ⟨r,c,n,u⟩=E at e i;obtain⟨T,f⟩:=E;have q:(f !=0)=true:=ϒ.2 i;clear i;unfold kz at e;unfold iC at*
 simp only at*
 unfold ptr;go_in;go_wp2_with fail;refine M! (e _<|hv.below R!) λw1 l=>?_;have o:=(ak (P! w.heap.size w) _).trans<|l.mono N!;have g:gF w1 b oa ol m:=aO.below h o;have O:aO w1 w.heap.size 157 #[A! r,A! c,A! n,J! y u.length j]:=(aO.new w _ _).below l;have A:=hv.below o;go_wp2;go_ret2;exact⟨Q!,[],ol,rfl,pR.nil _ _,rfl,g,.inl ⟨rfl,rfl⟩,Only.aP o⟩
theorem XN(j:(dJ d).2=0)(a2:fO d.code=C?):
 G! E? 204 #[ptr b,.agg<|iC d v,H? yes] w (vX b oa ol m ((eW m d yes).1,(eW m d yes).2,0) w):=by
 have u:=A? λw h=>tC d v w h;have a1:=j;let⟨a3,a4,ac,ad,a5⟩:=vY a1;have z:=A? λw=>kV d.code w;rw[a2]at z;have g:=A?<|λ(w1:D!) (B:gF w1 b oa ol m) (V:aI w1 v d.opts)=>aby yes B V a5 hl ⟨a3,a4⟩ pS;let⟨J,I⟩:=F?<|eW m d yes;have a0:J.1.last=m.last:=by rw[<-I];exact Jl m d yes
 rw[I]at g|-;have C:=A? a0;have ab:=A? pS;obtain⟨a7,a8,rfl,-,-⟩:=aD.form hv;obtain⟨O,H,A,L⟩:=d;generalize dJ ⟨O,H,A,L⟩=E at u j;obtain⟨T,Y⟩:=E;obtain rfl:Y=0:=j;obtain⟨a9,aa⟩:=J;unfold ptr at g;unfold kz at u;clear hl;unfold iC at*
 simp only at*
 unfold ptr;go_in;go_wp2_with fail;refine M! (u _<|hv.below R!) λw1 y=>?_;have l:=(ak (P! w.heap.size w) _).trans<|y.mono N!;have K:gF w1 b oa ol m:=aO.below h l;have n:aO w1 w.heap.size 157 #[A! O,A! H,A! A,J! a7 L.length a8]:=(aO.new w _ _).below y;have Z:=hv.below l;have an:=n.k 0;have ao:=n.k 1;have ap:=n.k 2;have ar:=n.k 3;clear n y;go_wp2_with fail;refine d! (z _) ?_;go_wp2_with fail;apply(g _ K Z).mono;rintro e am ⟨al,a6,rfl,hl,S,X,N⟩;obtain⟨ae,ag,rfl,-,-⟩:=aD.form hl.1.at;have D:=A?<|hl.base l.size;have F:=A?<|(Only.aP l).trans N;have M:=A? S;clear hl N S;go_wp2;go_ret2;exact⟨_,a6,ol,rfl,D,M,X,.inl ⟨rfl,C⟩,F⟩
theorem Mt(y:(dJ d).2=0)(H:fO d.code=H!)(O:d.code=7):
 G! E? 204 #[ptr b,.agg<|iC d v,H? yes] w (vX b oa ol m (m,[⟨8,d.id,0,[]⟩],0) w):=by
 have g:=A? λw h=>tC d v w h;have S:=y;let⟨Z,a0,a1,a2,a3⟩:=vY S;have j:=A? λw=>kV d.code w;rw[H]at j;have a4:=κ.2 O;clear H O;have X:=A? pS;clear pS;obtain⟨V,K,rfl,-,-⟩:=aD.form hv;obtain⟨A,l,z,D⟩:=d;generalize dJ ⟨A,l,z,D⟩=E at g y;obtain⟨T,Y⟩:=E;obtain rfl:Y=0:=y;clear S;unfold kz at g;unfold iC at*
 simp only at*
 unfold ptr;go_in;go_wp2_with fail;refine M! (g _<|hv.below R!) λw1 I=>?_;have n:=(ak (P! w.heap.size w) _).trans<|I.mono N!;have B:gF w1 b oa ol m:=aO.below h n;have u:aO w1 w.heap.size 157 #[A! A,A! l,A! z,J! V D.length K]:=(aO.new w _ _).below I;have J:=hv.below n;have a5:=u.k 0;have a6:=u.k 1;have a7:=u.k 2;have a8:=u.k 3;have F:=A?<|bq.one Cj w1 ((⟨8,l,0,[]⟩:cR),L?,0) w.heap.size n.size;have N:K! w1<|w1.alloc (.cells (Cj.enc ((⟨8,l,0,[]⟩:cR),L?,0)).toArray Cj.tE):=R!;have M:=A?<|aO.below B N;have C:=A?<|n.trans<|N.mono n.size;go_wp2_with fail;refine d! (j _) ?_;go_wp2;go_ret2;exact⟨_,[((⟨8,l,0,[]⟩:cR),L?,0)],ol,rfl,⟨F,λx L=>by rw[j?]at L;subst L;exact bq.nil _ _ _⟩,rfl,M,.inl ⟨rfl,rfl⟩,Only.aP C⟩
theorem TF(L:(dJ d).2=0)(aa:fO d.code=H!)(a7:d.code≠7)(ap:0<=m.ask.code/\m.ask.code<=8)(hn:¬(0<m.left/\d.code=m.ask.code+1/\d.id=m.ask.id)):
 G! E? 204 #[ptr b,.agg<|iC d v,H? yes] w (vX b oa ol m (m,[],0) w):=by
 have j:=A? λw h=>tC d v w h;have a9:=L;let⟨ar,av,ax,az,b0⟩:=vY a9;have C:=A? λw=>kV d.code w;rw[aa]at C;have ad:=Q?.2 a7;have ab:IntKind.i64.wrap (m.ask.code+1)=m.ask.code+1:=ϫ _ B!
 have N:K? (0<m.left)=H!\/(decide (0<m.left)=C?/\(d.code==m.ask.code+1)=H!)\/(decide (0<m.left)=C?/\(d.code==m.ask.code+1)=C?/\(d.id==m.ask.id)=H!):=by
  by_cases u:0<m.left
  .by_cases A:d.code=m.ask.code+1
   .exact .inr (.inr ⟨b! u,κ.2 A,Q?.2 λa5=>hn ⟨u,A,a5⟩⟩)
   .exact .inr (.inl ⟨b! u,Q?.2 A⟩)
  .exact .inl<|W? u
 have D:=A? hv;have ao:=A? pS;obtain⟨ae,ag,rfl,-,-⟩:=aD.form hv;obtain⟨z,id,M,V⟩:=d;have H:=A? h;generalize dJ ⟨z,id,M,V⟩=E at j L;obtain⟨T,a6⟩:=E;obtain rfl:a6=0:=L;let⟨a1,Y⟩:=F? m.left;let⟨X,O⟩:=F? m.ask.code;let⟨J,F⟩:=F? m.ask.id;simp only at ad N;rw[Y,O,F]at N;rw[O]at ab;have HL4:=A? Y;have HAC:=A? O;have HAI:=A? F;rcases N with K|⟨K,ac⟩|⟨K,ac,b1⟩
 all_goals
  unfold kz at j;unfold iC at*
  simp only at*
  unfold ptr;go_in;go_wp2_with fail;refine M! (j _<|D.below R!) λw1 B=>?_;have I:=(ak (P! w.heap.size w) _).trans<|B.mono N!;have g:gF w1 b oa ol m:=aO.below H I;have y:aO w1 w.heap.size 157 #[A! z,A! id,A! M,J! ae V.length ag]:=(aO.new w _ _).below B;have a8:=D.below I;have al:=y.k 0;have am:=y.k 1;have b2:=y.k 2;have b3:=y.k 3;have an:=A? a8;have a2:=(aO.cell g 0).trans naP;have a3:=(aO.cell g 1).trans nb3;have a4:=(aO.cell g 4).trans nau;go_wp2_with fail;refine d! (C _) ?_;go_wp2;refine dW (λn=>J? n b 0 X/\J? n b 1 J/\J? n b 4 a1/\J? n w.heap.size 0 z/\J? n w.heap.size 1 id) (zcb [30]) (⟨a2,a3,a4,al,am⟩) ?_;refine T? ?_;have a0:=A?<|aO.below g (P! _ _).drew;have Z:=A?<|Below.drew I;go_wp2;go_ret2;exact⟨Q!,[],ol,rfl,pR.nil _ _,rfl,a0,.inl ⟨rfl,rfl⟩,Only.aP Z⟩
theorem PO(F:(dJ d).2=0)(a9:fO d.code=H!)(a2:d.code≠7)(az:0<=m.ask.code/\m.ask.code<=8)(Z:0<m.left)(a0:d.code=m.ask.code+1)(a1:d.id=m.ask.id):
 G! E? 204 #[ptr b,.agg<|iC d v,H? yes] w (vX b oa ol m ({m with left:=0,last:=d},[],0) w):=by
 have C:=A? λw h=>tC d v w h;have a8:=F;let⟨bo,br,bs,bv,b2⟩:=vY a8;have K:=A? λw=>kV d.code w;rw[a9]at K;have b4:=Q?.2 a2;have b1:IntKind.i64.wrap (m.ask.code+1)=m.ask.code+1:=ϫ _ B!;clear a9 a2;have b3:=b! Z;have aa:=κ.2 a0;have ab:=κ.2 a1;have B:=A? λw h=>wP d v w h b2;clear Z a0 a1 az;have b9:=A? pS;have bm:=h.lt;clear pS;obtain⟨b5,b6,rfl,-,-⟩:=aD.form hv;obtain⟨n,id,y,j⟩:=d;generalize dJ ⟨n,id,y,j⟩=ae at C F;obtain⟨T,ar⟩:=ae;obtain rfl:ar=0:=F;clear a8;obtain⟨M,V⟩:∃M:dD,{m with left:=0,last:=⟨n,id,y,j⟩}=M:=⟨_,rfl⟩
 have ag:E!<|∀(Y:D!) (u:I?),gF Y b oa ol m->gF (((((Y.setCell (B? b 4)<|A! 0).setCell (B? b 8)<|A! n).setCell (B? b 9)<|A! id).setCell (B? b 10)<|A! y).setCell (B? b 11) u) b oa u M/\M.last=⟨n,id,y,j⟩:=A? λY u h=>by
  rw[<-V];exact⟨((((aO.set h 4 (A! 0) (cs':=kM oa ol {m with left:=0}) rfl).set 8 (A! n) (cs':=kM oa ol {m with left:=0,last:=⟨n,m.last.id,m.last.answer,m.last.opts⟩}) rfl).set 9 (A! id) (cs':=kM oa ol {m with left:=0,last:=⟨n,id,m.last.answer,m.last.opts⟩}) rfl).set 10 (A! y) (cs':=kM oa ol {m with left:=0,last:=⟨n,id,y,m.last.opts⟩}) rfl).set 11 u rfl,rfl⟩
 rw[V];let⟨am,a5⟩:=F? m.left;let⟨ac,a3⟩:=F? m.ask.code;let⟨ad,a4⟩:=F? m.ask.id;simp only at b4 aa ab;rw[a5]at b3;rw[a3]at aa b1;rw[a4]at ab;have HL4:=A? a5;have HAC:=A? a3;have HAI:=A? a4;unfold kz at C;unfold iC at*
 simp only at B;simp only at*
 unfold ptr;go_in;go_wp2_with fail;refine M! (C _<|hv.below R!) λw1 A=>?_;have E:=(ak (P! w.heap.size w) _).trans<|A.mono N!;have I:gF w1 b oa ol m:=aO.below h E;have N:aO w1 w.heap.size 157 #[A! n,A! id,A! y,J! b5 j.length b6]:=(aO.new w _ _).below A;have ax:=hv.below E;have b7:=N.k 0;have b8:=N.k 1;have bz:=N.k 2;have c0:=N.k 3;have al:=A? ax;have an:=(aO.cell I 0).trans naP;have ao:=(aO.cell I 1).trans nb3;have ap:=(aO.cell I 4).trans nau;go_wp2_with fail;refine d! (K _) ?_;go_wp2;refine dW (λO=>J? O b 0 ac/\J? O b 1 ad/\J? O b 4 am/\J? O w.heap.size 0 n/\J? O w.heap.size 1 id) (zcb [30]) (⟨an,ao,ap,b7,b8⟩) ?_;refine T? ?_;go_wp2_with fail;refine(B _<|al.below (P! _ _).drew).mono ?_;rintro e z ⟨bx,rfl,a7,A⟩;obtain⟨L,D,rfl,-,-⟩:=aD.form a7.at;have av:=E.trans<|(Below.drew U?).trans<|A.mono E.size;have g:gF z b oa ol m:=aO.below (aO.below I (P! _ _).drew) A;have J:=a7.base<|show w.heap.size<=_ from E.size;have a6:∀u:I?,Only (· =b) z<|((((z.setCell (B? b 4)<|A! 0).setCell (B? b 8)<|A! n).setCell (B? b 9)<|A! id).setCell (B? b 10)<|A! y).setCell (B? b 11) u:=λu=>(((((Only.refl (λk=>k=b) z).set (.inl rfl) _).set (.inl rfl) _).set (.inl rfl) _).set (.inl rfl) _).set (.inl rfl) u;have H:=A?<|And.intro (ag z (J! L j.length D) g)<|And.intro (J.only (a6<|J! L j.length D) (λk b0 e=>by have:=J.block k b0;omega))<|(Only.aP av).trans<|a6<|J! L j.length D;have X:∃x,L! z b 4 x:=⟨_,g.cell 4⟩;obtain⟨c1,X⟩:=X;have bd:=g.k 8;have be:=g.k 9;have ba:=g.k 10;have bc:=g.k 11;have bj:=aO.frozen g 4;have bk:=aO.frozen g 8;have bl:=aO.frozen g 9;have bf:=aO.frozen g 10;have bi:=aO.frozen g 11;go_wp2;go_ret2;exact⟨Q!,[],J! L j.length D,rfl,pR.nil _ _,rfl,H.1.1,.inr ⟨rfl,by rw[show(M,([]:List cR),(0:Int)).1.last=_ from H.1.2];exact H.2.1⟩,H.2.2⟩
theorem XO(r:0<=m.ask.code/\m.ask.code<=8):
 G! E? 204 #[ptr b,.agg<|iC d v,H? yes] w (vX b oa ol m (lw m d yes) w):=by
 unfold lw;by_cases e:(dJ d).2≠0
 .rw[G? e];exact TE yes h hv hl pS e
 .rw[F! e];have e:(dJ d).2=0:=B!;cases n:fO d.code
  .rw[F! I!];by_cases i:d.code=7
   .rw[G? i];exact Mt yes h hv hl pS e n i
   .rw[F! i];by_cases o:0<m.left/\d.code=m.ask.code+1/\d.id=m.ask.id
    .rw[G? o];exact PO yes h hv hl pS e n i r o.1 o.2.1 o.2.2
    .rw[F! o];exact TF yes h hv hl pS e n i r o
  .rw[G? rfl];exact XN yes h hv hl pS e n
end
theorem C6:∀(n:Nat) (l:List UInt8) (i:List bD),(∀o∈i,o.2.size<=255)->∀o∈(iF n l i).1,o.2.size<=255
 |0,l,i,h=>λo e=>by
  unfold iF at e;cases e
 |n+1,l,i,h=>by
  unfold iF;split
  .exact h
  .split
   .intro o e;cases e
   .refine C6 n _ _ λo e=>?_;rcases ό.1 e with e|e
    .exact h o e
    .rw[j?]at e;subst e;have:=(l.getD 1 0).toNat_lt;simp only[aA,Φ,w!];omega
theorem PR(l:List UInt8):∀o∈(dK l).1.opts,o.2.size<=4611686018427387904:=by
 unfold dK;split
 .intro o e;cases e
 .split
  .intro o e;cases e
  .dsimp only;split
   .intro o e;cases e
   .split
    .intro o e;cases e
    .intro o e
     have h:∀k:List UInt8,∀o∈(dO k).1,o.2.size<=255:=λk=>by
      unfold dO;split
      .intro o e;cases e
      .exact C6 _ _ _ λo e=>by cases e
     have:=h _ o e;omega
theorem XR(l:List UInt8):0<=(dK l).1.id/\(dK l).1.id<=255:=by
 have o:∀i,0<=ko l i/\ko l i<=255:=λi=>by
  have:=(l.getD i 0).toNat_lt;unfold ko;omega
 have e:0<=sK.id/\sK.id<=255:=I!;unfold dK;split
 .exact e
 .split
  .exact e
  .dsimp only;split
   .exact e
   .split
    .exact e
    .exact o 1
theorem Jm(l:List UInt8):(iG l).1.value.size<=9223372036854775807:=by
 have e:gM.value.size<=9223372036854775807:=I!;unfold iG;split
 .exact e
 .split
  .exact e
  .dsimp only;split
   .split
    .exact e
    .split
     .exact e
     .have:=((List.drop 4<|List.take (cB l) l).getD 0 0).toNat_lt;simp only[aA,Φ,w!];omega
   .split
    .exact e
    .show(0:Nat)<=_;omega
section
variable{G1:Nat->Tag}
section
variable{P:Program}{α:Type}{E:Elem P α}{l:List α}{b o n c:Nat}
theorem jd.setAt(h:jd E w (J! (C!<|B? b o) n c) l)(k:Nat)(C:k<l.length)(y:α)(i:Nat)(z:i<E.size)(x:I?)(D:E.enc y=(E.enc l[k]).set i x):jd E (w.setCell (B? b<|o+k*E.size+i) x) (J! (C!<|B? b o) n c)<|l.set k y:=by
 rcases h with⟨rfl,_⟩|⟨W,V,Y,f,I,S,R,H,h4,L⟩
 .simp at C
 .simp only[ba9,bbD,bcH]at I;obtain⟨⟨rfl,rfl,-⟩,rfl,rfl⟩:=I;refine .inr ⟨b,o,c,f.setIfInBounds (o+k*E.size+i) x,by rw[bcx],by rw[bcx];exact S,R,?_,mcD,λj hj=>?_⟩
  .simp only[World.setCell,ba8,t!,H,p?];rfl
  .rw[bcx]at hj;have O:=x? j E.pos;have B:=bcr j E.size;have q:=mbN mdA;have A:j=j/E.size*E.size+j%E.size:=mbm;have v:=E.at (l.set k y) (j/E.size) (by rw[bcx];exact q) (j%E.size) O;rw[<-A]at v;have g:=L j hj;have d:=E.at l (j/E.size) q (j%E.size) O;rw[<-A]at d
   have M:o+k*E.size+i<f.size:=by
    have:=mas E.size<|show k+1<=c from B!;rw[ώ]at this;omega
   rw[v,List.getElem_set];by_cases r:k=j/E.size
   .rw[G? r,D,bcc];by_cases u:i=j%E.size
    .have F:o+k*E.size+i=o+j:=by rw[r,u];omega
     rw[G? u,G?<|by rw[E.len];exact z,<-F,Array.getElem?_setIfInBounds_self_of_lt M]
    .rw[F! u,bb3<|by rw[r];omega,g,d];simp only[r]
   .rw[F! r,bb3 (λe=>r (by
     have N:k*E.size+i=j:=B!;rw[<-N,Nat.add_comm,Nat.mul_comm,Nat.add_mul_div_left _ _ E.pos,Nat.div_eq_of_lt z,ξ])),g,d]
end
theorem XV(c i o:Int)(h:aY w G t s m)(n:eH m c i≠0):G! E? 57 #[ptr s,A! c,A! i,A! o] w (Left (λd r=>aY d r t s (lX m c i o).1) (aq t) G w<|A! (lX m c i o).2):=by
 have h0:=h;obtain⟨u,f,h⟩:=h;have hop:=zP c i h n;have l:lX m c i o=(m,eH m c i):=by unfold lX;rw[G? n]
 rw[l];have q:=ϒ.2 n;exact ncR
end
section
open Go.ChangeShapes Go.WideShapes Go.ChangeAt Go.RowKit
theorem seatTie1:Tryz.prog.laidByTextLater [("unicode/utf8.acceptRanges",Rows.laid_unicode_utf8_acceptRanges)] [.data] true:=
 Program.laidByTextLater_by_one 19 8 33 (by kernel_rfl) (by kernel_rfl) (by kernel_rfl) (by kernel_rfl) (by kernel_rfl) (by kernel_rfl) (λ_ _=>by kernel_rfl)
theorem pin_laid_unicode_utf8_first:Tryz.pinned.checked.prog.pinnedFits "unicode/utf8.first"=true:=by kernel_rfl
theorem noOwnUnsafe:Tryz.pinned.checked.prog.headLifts.contains "ownunsafe"=false:=by kernel_rfl
theorem fits1:Tryz.pinned.checked.prog.listedFits [("unicode/utf8.acceptRanges",Rows.laid_unicode_utf8_acceptRanges),("unicode/utf8.first",Rows.laid_unicode_utf8_first)]=true:=by
 unfold Program.listedFits;rw[noOwnUnsafe]
 kernel_rfl
theorem pairErrors_row_tie:Rows.pairErrorsRow.laidByTextAt .later Tryz.pinned [.data,.pinned] true:=
 OpenClaim.laidByTextAt_pinned rfl rfl seatTie1 rfl rfl rfl rfl (λy e o=>by
  simp only[Rows.pairErrorsRow,List.zip_cons_cons,List.zip_nil_right,n!,List.mem_nil_iff,baE]at e;rcases e with rfl|rfl
  .cases o
  .exact⟨pin_laid_unicode_utf8_first,by kernel_rfl⟩) fits1
theorem ownKnobNone:ownKnob Tryz.prog.godebug=none:=by kernel_rfl
theorem laidOutAll:laidOutB Tryz.prog=true:=by kernel_rfl
theorem maxLenIs_shape{W:World}(h:W.ShapedOpen Tryz.prog):∃m,dm W m:=
 cell_of_shapedOpen_int (P:=Tryz.prog) (g:=0) (t:=3) (zero:= #[.int .i64 0]) h (bbN (by kernel_rfl)) (by kernel_rfl) rfl (by kernel_rfl) (by kernel_rfl) Tryz.underlying3
def flat0:DataW Unit->List Value
 |.lit (.int k n)=>[.int k n]
 |_=>[]
def flat1:DataW Unit->List Value
 |.agg l=>l.flatMap flat0
 |d=>flat0 d
def flat2:DataW Unit->List Value
 |.agg l=>l.flatMap flat1
 |d=>flat0 d
def putCells(e:List Value):Obj->Obj
 |.cells _ t i=>.cells e.toArray t i
 |o=>o
noncomputable def laidWorld (e:Os):World:=
 {World.holding Tryz.prog e ⟨#[],#[],[]⟩with heap:=((World.holding Tryz.prog e ⟨#[],#[],[]⟩).heap.modify 1 (putCells (flat2 Rows.laid_unicode_utf8_first))).modify 2 (putCells (flat2 Rows.laid_unicode_utf8_acceptRanges))}
theorem laidMet_any(o:Os)(e:Array Value):laidMet Tryz.prog Rows.pairErrorsRow.laid ((laidWorld o).forCall (λ_ _=>0) ⟨#[],e,[]⟩).memory:=
 laidMet_of_run' 8 (by kernel_rfl) (by kernel_rfl)
end
