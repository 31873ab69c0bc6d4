/- Walks and plain laws. -/
import Derived.Test.YtncddkcponjlpaaGreatDoorK48
set_option linter.unusedVariables false
set_option linter.unusedSimpArgs false
set_option maxHeartbeats 0
set_option maxRecDepth 99999
namespace Go.Proofs.YtncddkcponjlpaaGreatDoor
open Go.RowKit Go.Proofs.Tryz
open Go renaming World→D!,Value→I?,Calls→G!,IntKind→ncy
open Go.RowKit renaming Hid→E!
open Decidable renaming decide→K?
open Option renaming some→C!,none→L?
open Bool renaming true→C?,false→H!
open Go.Proofs.Tryz renaming prog→E?
variable{P:Prop}
variable{w w1 w2 W W1:D!}{G G1 G2:Nat->Tag}{pb a b sb ab N:Nat}{va vb:I?}{m m':fD}{ml:Int}
def xE(A:Bg):Bg:=if A.kind=0/\60<A.n/\A.n<=4096 then{A with n:=1+A.n%60}else A
theorem ad3(h:bQ w G pb a b sb va vb m)(d:Env w G ml){Q:Nat}(l:G Q=free)(i:Nat)(v:I?):bQ (w.setCell (B? Q i) v) G pb a b sb va vb m/\Step (λu=>u=free) G w G (w.setCell (B? Q i) v):=by
 have t:=ay w Q i v;have o:Step (λu=>u=free) G w G<|w.setCell (B? Q i) v:=⟨t.os,t.tape,t.output,t.size,λ_ _=>rfl,λk s r=>t.block k s λe=>r<|by rw[e];exact l⟩;exact⟨h.step o (λu n e=>by rw[show u=free from e]at n;exact DU n),o⟩
theorem ab2(A:Bg)(h:bQ w G pb a b sb va vb m)(S:Env w G ml)(H:cO N m)(C:N+73200000<=40000000000)(z:(A.data.size:Int)<=9223372036854775807)(B: -9223372036854775808<=A.n)(V:A.n<=9223372036854775807)(O:A.kind=4->TnC m.s A.n A.peer A.data):
 G! E? 18 #[ptr pb,.agg #[A! A.kind,A! A.peer,A! A.n,D? A.data]] w λe a2=>e=.returned (A! (gr m<|xE A).2)/\∃KF KG,bL G w pb a b sb KF KG (gr m<|xE A).1 a2:=by
 let⟨g,f,u,l,E⟩:=kS h S #[A! A.kind,A! A.peer,A! A.n,D? A.data];obtain⟨k,p,n,d⟩:=A;simp only at g f u l z B V O|-;have xX:=A? λn w=>Qv n w;let⟨W,a0⟩:=F?<|w.alloc (.cells #[A! k,A! p,A! n,D? d] 34);let⟨Q,K⟩:=F? w.heap.size;rw[a0]at l g u f;rw[K]at l g u E f;have aa:=l.k 0;have ac:=l.k 1;have ad:=l.k 2;have ae:=l.k 3;have a3:=l.frozen 2;have a7:=l.lt;by_cases I:k=0/\60<n/\n<=4096
 .have a8:n.tmod 60=n%60:=baB B!;have j:xE ⟨k,p,n,d⟩=⟨k,p,1+n%60,d⟩:=by unfold xE;rw[G? I]
  rw[j];obtain⟨rfl,a5,a6⟩:=I;let⟨hp2,hs2⟩:=ad3 g f E 2<|A!<|1+n%60
  have F:((B? 0 0):Addr).block≠Q:=λe=>by
   have L:=h! S.m;have X:0=Q:=e;rw[<-K]at X;exact absurd L (by show¬0<_;omega)
  have M:Env (W.setCell (B? Q 2)<|A!<|1+n%60) (grow G Q free) ml:=⟨(ay W Q 2 _).cell f.m F,f.g⟩;have rK:=A?<|Uc ⟨0,p,1+n%60,d⟩ hp2 M H B! z (by show _<=1+n%60;omega) (by show 1+n%60<=_;omega) (λ_ _ _=>by show N+1200000*(1+n%60).toNat<=_;omega)<|λh=>absurd (show(0:Int)=4 from h) I!;have HB2:=A? (l.set 2 (A!<|1+n%60) rfl:aO (W.setCell (B? Q 2)<|A!<|1+n%60) Q 34 #[A! 0,A! p,A!<|1+n%60,D? d]);have HS2:E!<|Step iK G w (grow G Q free)<|W.setCell (B? Q 2)<|A!<|1+n%60:=A? ⟨hs2.os.trans u.os,hs2.tape.trans u.tape,hs2.output.trans u.output,Z? u.size hs2.size,u.old,λi Y a1=>((ay W Q 2 _).block i (Z! Y u.size) B!).trans<|u.keep i Y a1⟩;generalize gr m ⟨0,p,1+n%60,d⟩=R at rK|-;clear O h S g f M u l E hp2 hs2 F j H C z;unfold ptr at*
  go_in
  exact mco
 .have j:xE ⟨k,p,n,d⟩=⟨k,p,n,d⟩:=by unfold xE;rw[F! I]
  rw[j]
  have rK:=A? (Uc ⟨k,p,n,d⟩ g f H B! z B V (λL J y=>by
   show N+1200000*n.toNat<=_;have D:k=0:=L;have Z:n<=4096:=J;have a4:0<=n:=y;omega) O)
  have HB2:=A? l;have HS2:=A? u;generalize gr m ⟨k,p,n,d⟩=R at rK|-;have y:k≠0\/(k=0/\n<=60)\/(k=0/\60<n/\4096<n):=B!;clear O h S g f u l E j H C z I;unfold ptr at*
  rcases y with y|⟨rfl,D⟩|⟨rfl,D,Z⟩
  .have a9:=Q?.2 y;clear y;go_in;exact mco
  .go_in
   exact mco
  .go_in
   exact mco
section
variable{c:cP}
def fI(w:D!)(pb:Nat)(m:fD)(W:D!):Prop:=∃e a b sb va vb,bQ W e pb a b sb va vb m/\(∀i,i<w.heap.size->e i=free)/\K! w W
theorem Vf(t:dm w ml){e:Nat->Tag}(o:K! w W)(n:∀i,i<w.heap.size->e i=free):Env W e ml:=by
 have s:=h! t;exact⟨aw o t,n _ s⟩
theorem fI.new(h:bQ W G pb a b sb va vb m)(e:K! w W1)(t:K! W1 W)(o:∀i,i<W1.heap.size->G i=free):fI w pb m W:=
 ⟨G,a,b,sb,va,vb,h,λi n=>o i<|Z! n e.size,e.trans<|t.mono e.size⟩
theorem fI.half{m':fD}(u:bQ W G pb a b sb va vb m)(s:∀i,i<w.heap.size->G i=free)(t:K! w W){o n:I?}(h:bL G W pb a b sb o n m' W1):fI w pb m' W1:=by
 obtain⟨l,d,r⟩:=h;exact⟨l,a,b,sb,o,n,d,λi e=>(r.old i<|Z! e t.size).trans<|s i e,t.trans<|r.base t.size λi e=>by rw[s i e];exact DU⟩
theorem fI.below(h:fI w pb m W)(n:K! W W1):fI w pb m W1:=by
 obtain⟨d,a,b,sb,va,vb,u,f,o⟩:=h;have r:=Step.below (T:=λ_=>False) (G:=d) n;exact⟨_,a,b,sb,va,vb,u.step r (λ_ _ e=>e),λi s=>(r.old i<|Z! s o.size).trans<|f i s,o.trans<|n.mono o.size⟩
theorem fI.base(h:fI w pb m W):K! w W:=by
 obtain⟨t,a,b,sb,va,vb,o,i,e⟩:=h;exact e
theorem fI.act(A:Bg)(h:fI w pb m W)(u:dm w ml)(d:cO N m)(s:N<=40000000000)(y:(A.data.size:Int)<=9223372036854775807)(f: -9223372036854775808<=A.n)(g:A.n<=9223372036854775807)(r:A.kind=0->A.n<=4096->0<=A.n->N+1200000*A.n.toNat<=40000000000)(l:A.kind=4->TnC m.s A.n A.peer A.data):
 G! E? 35 #[ptr pb,.agg #[A! A.kind,A! A.peer,A! A.n,D? A.data]] W λe n=>e=.returned (A! (gr m A).2)/\fI w pb (gr m A).1 n:=by
 obtain⟨v,a,b,sb,va,vb,t,o,i⟩:=h;apply(Uc A t (Vf u i o) d s y f g r l).mono;rintro e n ⟨rfl,j,q,k⟩;exact⟨rfl,fI.half t o i k⟩
theorem fI.done(A:Bg)(h:fI w pb m W)(d:dm w ml)(l:cO N m)(s:N+73200000<=40000000000)(g:(A.data.size:Int)<=9223372036854775807)(u: -9223372036854775808<=A.n)(f:A.n<=9223372036854775807)(r:A.kind=4->TnC m.s A.n A.peer A.data):
 G! E? 18 #[ptr pb,.agg #[A! A.kind,A! A.peer,A! A.n,D? A.data]] W λe n=>e=.returned (A! (gr m<|xE A).2)/\fI w pb (gr m<|xE A).1 n:=by
 obtain⟨y,a,b,sb,va,vb,t,o,i⟩:=h;apply(ab2 A t (Vf d i o) l s g u f r).mono;rintro e n ⟨rfl,v,j,k⟩;exact⟨rfl,fI.half t o i k⟩
theorem fI.time(h:fI w pb m W):G! E? 25 #[ptr pb] W (T! W<|A! m.time):=by
 obtain⟨t,a,b,sb,va,vb,e,-⟩:=h;exact ML e
theorem fI.Yf(h:fI w pb m W)(r:m.cr.length*16<=140737488355328):G! E? 33 #[ptr pb,A! 0] W λe o=>∃t,e=.returned t/\ky fB o W.heap.size t m.cr/\fI w pb m o/\K! W o:=by
 have n:=h;obtain⟨d,a,b,sb,va,vb,s,-⟩:=h;apply(Ua s r).mono;rintro e o ⟨⟨t,rfl,l⟩,i⟩;exact⟨t,rfl,l,n.below i,i⟩
theorem fI.af4(h:fI w pb m W)(r:m.cH.length*16<=140737488355328):G! E? 33 #[ptr pb,A! 1] W λe o=>∃t,e=.returned t/\ky fB o W.heap.size t m.cH/\fI w pb m o/\K! W o:=by
 have n:=h;obtain⟨d,a,b,sb,va,vb,s,-⟩:=h;apply(Ub s r).mono;rintro e o ⟨⟨t,rfl,l⟩,i⟩;exact⟨t,rfl,l,n.below i,i⟩
theorem fI.loads(h:fI w pb m W):G! E? 31 #[ptr pb] W λe o=>e=.returned (.tuple #[A! m.a.load,A! m.b.load])/\fI w pb m o:=by
 obtain⟨s,a,b,sb,va,vb,t,i,n⟩:=h;refine M! (Yc t) λo k=>?_;exact⟨rfl,fI.half t i n k⟩
end
def hiA:Bg:=⟨1,0,0,⟨#[104,105]⟩⟩
def KL:fD:=(gr (js lW) hiA).1
theorem ahQ:(gr (js lW) hiA).2=0:=I!
theorem ab3:KL.cr=[⟨#[104,105]⟩]:=ba0
theorem MS:KL.time=0:=ba0
def aez:cP:=⟨0,0,0,0,0,0,0,0,0,0,0,0,H!,⟨#[]⟩,⟨#[]⟩,⟨#[]⟩,0,0⟩
theorem ab4:iH aez=false:=I!
theorem Yg(w:D!):G! E? 15 #[.agg xak] w λe o=>∃pb,e=.returned (.tuple #[P? pb,A! 0])/\∃t a b sb,bQ o t pb a b sb Q! Q! (js lW)/\K! w o/\∀i,i<w.heap.size->t i=free:=
 Qs lW w (λ_=>free) KI
theorem ab5(w:D!):G! E? 15 #[.agg #[A! 0,A! 0,A! 0,A! 0,A! 0,A! 0,A! 0,A! 0,A! 0,A! 0,A! 0,A! 0,H? H!,D? ⟨#[]⟩,D? ⟨#[]⟩,D? ⟨#[]⟩,A! 0,A! 0]] w (S? w (.tuple #[.pointer L?,A! 2700])):=
 Qr aez w ab4
def ab6:Bg:=⟨0,0,3,⟨#[]⟩⟩
def aeA:Bg:=⟨99,0,0,⟨#[]⟩⟩
def Ud:Bg:=⟨0,0,0,⟨#[]⟩⟩
theorem ab7:gr KL ab6=(bV 3 KL,0):=by
 have e:gr KL ab6=if(3:Int)<1\/4096<(3:Int)\/1073741824<KL.time+3 then(KL,2700)else(bV 3 KL,0):=rfl
 rw[e,F!<|by rw[MS];decide]
theorem ab8(m:fD):gr m aeA=(m,2700):=rfl
theorem ab9(m:fD):gr m Ud=(m,2700):=by
 have e:gr m Ud=if(0:Int)<1\/4096<(0:Int)\/1073741824<m.time+0 then(m,2700)else(bV 0 m,0):=rfl
 rw[e,G? (.inl I!)]
theorem af5(r:dm w ml):G! E? 14 #[] w (S? w<|H? C?):=by
 have O:=A? λn w=>Qv n w;have q:=Py lW KI;have z:cO 4915200001 KL:=by have:=(Xx q hiA I!).1;rwa[ξ]at this
 let⟨a6,E,ac⟩:=r9 3 z (by rw[MS];decide);have y:=A?<|a6.mono (M:=5000000000) I!;have k:E!<|(bV 3 KL).time=3:=A? (by rw[ac,MS];rfl);have d:E!<|(bV 3 KL).cr=[⟨#[104,105]⟩]:=A? (by show KL.cr=_;exact ab3);go_in
 go_upto_region 2 with(first
  |(go_at_call 26;refine M! (Ye _) λw1 a2=>?_)
  |(go_at_call 15;apply(Yg _).mono;rintro e w2 ⟨pb,rfl,G2,a,b,sb,a9,a3,E⟩))
 have F:=A?<|fI.new a9 a2 a3 E
 have C:E! (G! E? 35 #[P? pb,.agg #[A! 1,A! 0,A! 0,D? ⟨#[104,105]⟩]] w2 λe o=>e=.returned (A! 0)/\fI w pb KL o):=A? (by
  have:=F.act hiA r q I! I! I! I! (λh=>baV)<|λh=>baV;rw[ahQ]at this;exact this)
 have u:E!<|∀W,fI w pb KL W->G! E? 35 #[P? pb,.agg #[A! 0,A! 0,A! 3,D? ⟨#[]⟩]] W λe o=>e=.returned (A! 0)/\fI w pb (bV 3 KL) o:=A? λW t=>by
  have:=t.act ab6 r z I! I! I! I! (λ_ _ _=>I!)<|λh=>baV;rw[ab7]at this;exact this
 have f:E!<|∀W,fI w pb (bV 3 KL) W->G! E? 35 #[P? pb,.agg #[A! 99,A! 0,A! 0,D? ⟨#[]⟩]] W λe o=>e=.returned (A! 2700)/\fI w pb (bV 3 KL) o:=A? λW t=>by
  have:=t.act aeA r y I! I! I! I! (λh=>baV)<|λh=>baV;rw[ab8]at this;exact this
 have g:E!<|∀W,fI w pb (bV 3 KL) W->G! E? 35 #[P? pb,.agg #[A! 0,A! 0,A! 0,D? ⟨#[]⟩]] W λe o=>e=.returned (A! 2700)/\fI w pb (bV 3 KL) o:=A? λW t=>by
  have:=t.act Ud r y I! I! I! I! (λ_ _ _=>I!)<|λh=>baV;rw[ab9]at this;exact this
 generalize bV 3 KL=M2 at u f g k d
 go_upto_region 5 with(first
  |(go_at_call 17;refine M! (O _ _) λc i=>?_;rw[i])
  |(go_at_call 35;refine M! C λar J=>?_))
 have H:=A?<|u _ J;go_upto_region 6 with(go_at_call 35;refine M! H λav Q=>?_)
 have L:=A?<|f _ Q;go_upto_region 7 with(go_at_call 35;refine M! L λax Z=>?_)
 have D:=A?<|g _ Z;go_upto_region 8 with(go_at_call 35;refine M! D λaz a0=>?_)
 go_upto_region 9 with(go_at_call 15;refine M! (ab5 _) λb0 a4=>?_)
 have I:=A?<|a0.below a4;have l:=A?<|I.Yf<|by rw[d.out];decide
 rw[d.out]at l;unfold ptr at l
 have am:E! (∀W,fI w pb M2 W->∃a,∀n:Int,n=0\/n=2->G! E? 20 #[P? pb,A! n] W (T! W (.pointer<|if n=2 then L? else C! (B? a 0)))):=A? λW t=>by
  obtain⟨an,a,b,sb,va,vb,A,-⟩:=t;refine⟨a,λn a8=>?_⟩;rcases a8 with rfl|rfl
  .rw[F! I!];exact Iu A
  .rw[G? rfl];exact Iv A
 have X:E!<|∀W,fI w pb M2 W->G! E? 25 #[P? pb] W (T! W<|A! 3):=A? λW t=>by
  have:=t.time;rw[k.out]at this;exact this
 have V:E!<|∀(v:I?) (W:D!),jd fB W v [⟨#[104,105]⟩]->G! E? 32 #[v,J! (C!<|B? W.heap.size 0) 1 1] (W.alloc (.cells xax 9)) λe o=>e=.returned (H? C?)/\Below (W.alloc (.cells xax 9)).heap.size (W.alloc (.cells xax 9)) o:=A? λv W ad=>
  MR v _ [⟨#[104,105]⟩] _ (DS ad _) (.inr ⟨W.heap.size,0,1,xax,rfl,I!,I!,c! _ _,I!,λj a7=>by
   have:j=0:=by have s:j<1:=a7;omega
   subst this;rfl⟩) I!
 go_wp2_with(first
  |(go_at_call 17;refine M! (O _ _) λc i=>?_;rw[i])
  |(go_at_call 33;apply l.mono;rintro e al ⟨ag,rfl,ae,a1,ao⟩;have B:=A?<|V ag al ae.1;have S:=A? a1)
  |(go_at_call 32;refine M! B λb1 a5=>?_;have s:=(S.below<|ak U? (.cells xax 9)).below a5;have K:=A?<|X _ s;let⟨ap,aa⟩:=am _ s;have Y:=A? aa;have R:=A? s.base)
  |(go_at_call 25;refine M! K λc i=>?_;rw[i])
  |(go_at_call 20;refine M! (Y _ I!) λc i=>?_;rw[i]))
 go_ret;exact⟨rfl,R⟩
