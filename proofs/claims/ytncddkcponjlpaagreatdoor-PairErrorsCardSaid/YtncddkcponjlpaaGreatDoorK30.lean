/- Walks and plain laws. -/
import Derived.Test.YtncddkcponjlpaaGreatDoorK29
set_option linter.unusedVariables false
set_option linter.unusedSectionVars false
set_option linter.unusedSimpArgs false
set_option maxHeartbeats 0
set_option maxRecDepth 99999
namespace Go.Proofs.YtncddkcponjlpaaGreatDoor
open Go.RowKit Go.Proofs.Tryz
open Go renaming World→D!,Value→I?,Calls→G!,IntKind→ncy
open Go.RowKit renaming Hid→E!
open Decidable renaming decide→K?
open Option renaming some→C!,none→L?
open Bool renaming true→C?,false→H!
open Go.Proofs.Tryz renaming prog→E?
variable{P:Prop}
variable{w w1 w2:D!}{G G1 G2:Nat->Tag}{n ml id:Int}{b sb N r:Nat}{x:eY}{z z':PS}{m:aF}
theorem Uy(b o n c:Nat)(a:Option Addr)(w:D!)(e:L! w b (o+1)<|J! a n c):
 G! E? 138 #[.pointer<|C!<|B? b o] w (T! w<|A! n):=by
 exact d?
theorem V7(b o:Nat)(u v:I?)(w:D!)(i:L! w b o u)(s:L! w b (o+1) v)(h:w.frozen? (B? b o)=H!)(l:w.frozen? (B? b<|o+1)=H!):
 G! E? 140 #[.pointer<|C!<|B? b o] w λe t=>e=.returned (.tuple #[])/\t=(w.setCell (B? b o) (.pointer L?)).setCell (B? b<|o+1) Q!:=by
 go_wp2
 go_end0;exact⟨rfl,rfl⟩
def uN(p:bM)(c:cT):bM×List cT:=
 if p.started=H!\/c.id≠1 then(p,[])
 else if p.proved=H!/\c.value≠gU 1 p.expect p.bZ then({p with failed:=C?},[⟨4,1,⟨#[]⟩,⟨#[110,111]⟩⟩])
 else({p with proved:=C?},[⟨3,1,⟨#[]⟩,⟨#[111,107]⟩⟩])
def WU(b:Nat)(r:bM×List cT)(w:D!)(e:Ending)(t:D!):Prop:=∃v,e=.returned v/\bq kL t w.heap.size v r.2/\jx t b r.1/\Only (· =b) w t
theorem WV{b V:Nat}{m:bM}{c:cT}{w:D!}(h:jx w b m)(a8:zi m)(a7:aO w V 104 (aK c).toArray):
 G! E? 233 #[ptr b,ptr V] w (WU b (uN m c) w):=by
 have R:=h.k 0;have L:=h.k 1;have ab:=h.k 3;have j:=h.k 4;have ad:=a7.k 1;have C:=a7.k 2;have a0:=A? λw=>J6 1 m.expect m.bZ w I! (by have:=a8.e;omega) a8.c;let⟨D,a6⟩:=F?<|gU 1 m.expect m.bZ;obtain⟨a5,g⟩:∃a1:bM,{m with failed:=C?}=a1:=⟨_,rfl⟩;obtain⟨M2,A⟩:∃a1:bM,{m with proved:=C?}=a1:=⟨_,rfl⟩;have I:E!<|uN m c=if m.started=H!\/c.id≠1 then(m,[])else if m.proved=H!/\c.value≠D then(a5,[⟨4,1,⟨#[]⟩,⟨#[110,111]⟩⟩])else(M2,[⟨3,1,⟨#[]⟩,⟨#[111,107]⟩⟩]):=A? (by unfold uN;rw[a6,g,A])
 have a9:E!<|∀w1,jx w1 b m->jx (w1.setCell (B? b 8)<|H? C?) b a5:=A? λw1 E=>by rw[<-g];exact aO.set E 8 (H? C?) rfl
 have a3:E!<|∀w1,jx w1 b m->jx (w1.setCell (B? b 4)<|H? C?) b M2:=A? λw1 E=>by rw[<-A];exact aO.set E 4 (H? C?) rfl
 rw[a6]at a0;generalize uN m c=ar at I|-;have H:=A? h;let⟨M,ap⟩:=F? m.started;let⟨pv,ao⟩:=F? m.proved;let⟨Z,aa⟩:=F? c.id;rw[ap]at ab I;rw[ao]at j I;rw[aa]at ad I;unfold ptr;by_cases E:M=H!\/Z≠1
 .have y:=A? (I.trans<|G? E)
  have al:M=H!\/(M=C?/\(Z !=1)=C?):=by
   cases M
   .exact .inl rfl
   .exact .inr ⟨rfl,by rcases E with e|e;cases e;exact ϒ.2 e⟩
  rcases al with rfl|⟨rfl,q⟩
  all_goals
   go_wp2
   go_ret;exact⟨Q!,rfl,by rw[y.out];exact bq.nil _ _ _,by rw[y.out];exact H,Only.refl _ _⟩
 .obtain⟨rfl,rfl⟩:M=C?/\Z=1:=by
   cases M
   .exact absurd (.inl rfl) E
   .exact⟨rfl,by by_cases e:Z=1;exact e;exact absurd (.inr e) E⟩
  have a2:=A?<|I.trans<|F! E;by_cases J:pv=H!/\c.value≠D
  .have y:=A? (a2.trans<|G? J);obtain⟨rfl,an⟩:=J;have q:=wA λe=>an (by rw[<-ox c.value,<-ox D,e]);have ac:=h.k 8;go_wp2;refine dW (λf=>L! f b 0 (D? m.expect)/\L! f b 1 (D? m.bZ)/\L! f b 4 (H? H!)/\L! f V 2 (D? c.value)) (zcb [21,1,3]) (⟨R,L,j,C⟩) ?_;refine R? ?_;intro a4 K;go_wp2_with(go_at_call 268;refine M! (a0 _) λw1 u=>?_);refine O! K ⟨af (W:=w.drew) u R,af (W:=w.drew) u L,af (W:=w.drew) u j,af (W:=w.drew) u C⟩ ?_;refine T? ?_;have g:jx w1 b m:=aO.below (w:=w.drew) H u;have av:=af (W:=w.drew) u ac;have ax:=aO.frozen g 8;have hB:=(P! w.heap.size w).drew.trans u;have A:=a9 w1 g;have O:Only (· =b) w<|w1.setCell (B? b 8)<|H? true:=(Only.aP hB).trans<|ay w1 b 8 _;have Y:=A?<|bq.one kL (w1.setCell (B? b 8)<|H? C?) ⟨4,1,⟨#[]⟩,⟨#[110,111]⟩⟩ w.heap.size O.size;have F:=A?<|aO.below A<|ak U? (.cells (kL.enc ⟨4,1,⟨#[]⟩,⟨#[110,111]⟩⟩).toArray kL.tE);have B:=A?<|O.alloc (.cells (kL.enc ⟨4,1,⟨#[]⟩,⟨#[110,111]⟩⟩).toArray kL.tE);go_wp2;go_ret;refine⟨J! (C!<|B? ((w1.setCell (B? b 8)<|H? C?).heap.size) 0) 1 1,?_,by rw[y.out];exact Y,by rw[y.out];exact F,B⟩;simp
  .have y:=A? (a2.trans<|F! J);by_cases X:pv=C?
   .subst X;go_wp2;refine dW (λf=>L! f b 0 (D? m.expect)/\L! f b 1 (D? m.bZ)/\L! f b 4 (H? C?)/\L! f V 2 (D? c.value)) (zcb [21,1,3]) (⟨R,L,j,C⟩) ?_;refine R? ?_;intro a4 K;go_wp2_with fail;refine O! K ⟨R,L,j,C⟩ ?_;refine T? ?_;have g:jx w.drew b m:=aO.below (w:=w) H (P! _ _).drew;have ae:=j;have ag:=aO.frozen g 4;have hB:=(P! w.heap.size w).drew;have A:=a3 w.drew g;have O:Only (· =b) w<|w.drew.setCell (B? b 4)<|H? true:=(Only.aP hB).trans<|ay w.drew b 4 _;have Y:=A?<|bq.one kL (w.drew.setCell (B? b 4)<|H? C?) ⟨3,1,⟨#[]⟩,⟨#[111,107]⟩⟩ w.heap.size O.size;have F:=A?<|aO.below A<|ak U? (.cells (kL.enc ⟨3,1,⟨#[]⟩,⟨#[111,107]⟩⟩).toArray kL.tE);have B:=A?<|O.alloc (.cells (kL.enc ⟨3,1,⟨#[]⟩,⟨#[111,107]⟩⟩).toArray kL.tE);go_wp2;go_ret;refine⟨J! (C!<|B? ((w.drew.setCell (B? b 4)<|H? C?).heap.size) 0) 1 1,?_,by rw[y.out];exact Y,by rw[y.out];exact F,B⟩;simp
   .have X:pv=false:=by cases pv;rfl;exact absurd rfl X
    have am:c.value=D:=by by_cases e:c.value=D;exact e;exact absurd ⟨X,e⟩ J
    subst X;have q:(c.value.toList==D.toList)=true:=xY (by rw[am]);go_wp2;refine dW (λf=>L! f b 0 (D? m.expect)/\L! f b 1 (D? m.bZ)/\L! f b 4 (H? H!)/\L! f V 2 (D? c.value)) (zcb [21,1,3]) (⟨R,L,j,C⟩) ?_;refine R? ?_;intro a4 K;go_wp2_with(go_at_call 268;refine M! (a0 _) λw1 u=>?_);refine O! K ⟨af (W:=w.drew) u R,af (W:=w.drew) u L,af (W:=w.drew) u j,af (W:=w.drew) u C⟩ ?_;refine T? ?_;have g:jx w1 b m:=aO.below (w:=w.drew) H u;have ae:=af (W:=w.drew) u j;have ag:=aO.frozen g 4;have hB:=(P! w.heap.size w).drew.trans u;have A:=a3 w1 g;have O:Only (· =b) w<|w1.setCell (B? b 4)<|H? true:=(Only.aP hB).trans<|ay w1 b 4 _;have Y:=A?<|bq.one kL (w1.setCell (B? b 4)<|H? C?) ⟨3,1,⟨#[]⟩,⟨#[111,107]⟩⟩ w.heap.size O.size;have F:=A?<|aO.below A<|ak U? (.cells (kL.enc ⟨3,1,⟨#[]⟩,⟨#[111,107]⟩⟩).toArray kL.tE);have B:=A?<|O.alloc (.cells (kL.enc ⟨3,1,⟨#[]⟩,⟨#[111,107]⟩⟩).toArray kL.tE);go_wp2;go_ret;refine⟨J! (C!<|B? ((w1.setCell (B? b 4)<|H? C?).heap.size) 0) 1 1,?_,by rw[y.out];exact Y,by rw[y.out];exact F,B⟩;simp
theorem qE{c:cT}(h:(cx c).2=0):1<=c.code/\c.code<=4/\0<=c.id/\c.id<=255/\c.value.size<=255/\c.name.size<=253/\fR c.code=K? (c.value.size≠0):=by
 by_cases t:c.code<1\/4<c.code\/dw c.id=H!\/fR c.code≠K? (c.value.size≠0)\/255<c.value.size
 .unfold cx at h;rw[G? t]at h;cases h
 .by_cases i:253<c.name.size
  .unfold cx at h;rw[F! t,G? i]at h;cases h
  .have o:dw c.id=true:=by
    cases e:dw c.id
    .exact absurd (.inr (.inr (.inl e))) t
    .rfl
   have s:fR c.code=K? (c.value.size≠0):=by
    by_cases e:fR c.code=K? (c.value.size≠0)
    .exact e
    .exact absurd (.inr (.inr (.inr (.inl e)))) t
   unfold dw at o;simp at o;exact⟨B!,B!,o.1,o.2,B!,B!,s⟩
theorem I8{p:bM}{c:cT}(h:(cx c).2=0)(i:p.failed=H!)(o:c.code=2):cw p c=((uN p c).1,(uN p c).2,0):=by
 unfold cw uN;rw[F! B!,i,F! I!,F! B!,G? o];by_cases e:p.started=H!\/c.id≠1
 .rw[G? e,G? e]
 .rw[F! e,F! e];by_cases t:p.proved=H!/\c.value≠gU 1 p.expect p.bZ
  .rw[G? t,G? t]
  .rw[F! t,F! t]
section
variable{b:Nat}{m:bM}{c:cT}{w:D!}(h:jx w b m)(hg:zi m)(hz:c.value.size<=9223372036854775807)
include h hg hz
theorem OU(i:(cx c).2≠0):
 G! E? 195 #[ptr b,.agg (aK c).toArray] w (qD b m [] 1600 w):=by
 have u:aO (w.alloc (.cells (aK c).toArray 104)) w.heap.size 104 (aK c).toArray:=aO.new _ _ _;have e:K! w<|w.alloc (.cells (aK c).toArray 104):=R!;have o:=A? λw=>qA c w hz;generalize cx c=E at o i;obtain⟨T,s⟩:=E;have q:(s !=0)=true:=ϒ.2 i;unfold aK kz ptr at*
 go_in
 go_wp2_with fail;refine M! (o _) λw1 t=>?_;have d:=aO.below (aO.below h e) t;have l:=e.trans<|t.mono e.size;clear t;go_wp2;go_ret2;exact⟨Q!,rfl,bq.nil _ _ _,d,Only.aP l⟩
theorem I9(f:(cx c).2=0)(A:m.failed=C?):
 G! E? 195 #[ptr b,.agg (aK c).toArray] w (qD b m [] 0 w):=by
 have I:aO (w.alloc (.cells (aK c).toArray 104)) w.heap.size 104 (aK c).toArray:=aO.new _ _ _;have k:K! w<|w.alloc (.cells (aK c).toArray 104):=R!;have y:=A? λw=>qA c w hz;have d:=A? k;have L:=A? I;have H:=A? h;have B:=h.lt;have O:=f;let⟨V,K,X,J,Q,Z,M⟩:=qE O;generalize cx c=E at y f;obtain⟨T,C⟩:=E;obtain rfl:C=0:=f;have D:=h.k 8;have F:=A? hg;have HF:=A? A;clear O h I k hg M A;unfold aK kz ptr at*
 go_in
 go_wp2_with fail;refine M! (y _) λw1 l=>?_;have u:=aO.below (aO.below H d) l;have g:=L.below l;have j:=d.trans<|l.mono d.size;have Y:=(aO.cell u 8).trans bci;have a0:J? w1 w.heap.size 0 c.code:=(g.cell 0).trans ba0;have R:=A? u;have W:=A? g;have S:=A? j;clear u g j l D;go_wp2;go_ret2;exact⟨Q!,rfl,bq.nil _ _ _,R,Only.aP S⟩
theorem Sk(u:(cx c).2=0)(k:m.failed=H!)(y:c.code=1):
 G! E? 195 #[ptr b,.agg (aK c).toArray] w (qD b m [⟨2,c.id,gU c.id m.secret c.value,m.name⟩] 0 w):=by
 have W:aO (w.alloc (.cells (aK c).toArray 104)) w.heap.size 104 (aK c).toArray:=aO.new _ _ _;have o:K! w<|w.alloc (.cells (aK c).toArray 104):=R!;have f:=A? λw=>qA c w hz;have q:=u;let⟨B,V,L,C,M,K,F⟩:=qE q;generalize cx c=E at f u;obtain⟨T,H⟩:=E;obtain rfl:H=0:=u;have HF:=A? k;have Sl:=A? y;clear q F k y;let⟨D,s⟩:=F?<|gU c.id m.secret c.value;rw[s];have I:=A? s;clear s;unfold aK kz ptr at*
 go_in
 go_wp2_with fail;refine M! (f _) λw1 d=>?_;have l:=aO.below (aO.below h o) d;have A:=W.below d;have i:=o.trans<|d.mono o.size;have Y:=(aO.cell l 8).trans bci;have Q:=(A.cell 0).trans mcQ;have t:=A?<|OQ (c:=c) l hg A ⟨L,C⟩ M;rw[I.out]at t;unfold ptr at t;go_wp2_with fail;apply t.mono;rintro e w2 ⟨v,rfl,j,g⟩;obtain⟨X,J,rfl,-,-⟩:=aD.form j.at;have R:=A?<|j.base i.size;have S:=A?<|aO.below l g;have O:=A?<|i.trans<|g.mono i.size;go_wp2;go_ret2;exact⟨_,rfl,R,S,Only.aP O⟩
theorem Sm(l:(cx c).2=0)(y:m.failed=H!)(g:c.code=2):
 G! E? 195 #[ptr b,.agg (aK c).toArray] w (qD b (uN m c).1 (uN m c).2 0 w):=by
 have D:aO (w.alloc (.cells (aK c).toArray 104)) w.heap.size 104 (aK c).toArray:=aO.new _ _ _;have o:K! w<|w.alloc (.cells (aK c).toArray 104):=R!;have d:=A? λw=>qA c w hz;have j:=l;let⟨W,Y,B,V,K,X,L⟩:=qE j;generalize cx c=E at d l;obtain⟨T,S⟩:=E;obtain rfl:S=0:=l;have HF:=A? y;have Sl:=A? g;clear j L y g;let⟨J,i⟩:=F?<|uN m c;rw[i];obtain⟨C,M⟩:=J;have O:=A? i;clear i;unfold aK kz ptr at*
 go_in
 go_wp2_with fail;refine M! (d _) λw1 s=>?_;have f:=aO.below (aO.below h o) s;have q:=D.below s;have u:=o.trans<|s.mono o.size;have F:=(aO.cell f 8).trans bci;have a0:=(q.cell 0).trans mcQ;have t:=A?<|WV (c:=c) f hg q;rw[O.out]at t;unfold ptr at t;go_wp2_with fail;apply t.mono;rintro e w2 ⟨v,rfl,k,R,H⟩;obtain⟨Q,Z,rfl,-,-⟩:=aD.form k.at;have I:=A?<|k.base u.size;have A:=A?<|(Only.aP u).trans H;go_wp2;go_ret2;exact⟨_,rfl,I,R,A⟩
theorem LY(i:(cx c).2=0)(d:m.failed=H!)(l:c.code=3):
 G! E? 195 #[ptr b,.agg (aK c).toArray] w (qD b {m with taken:=C?} [] 0 w):=by
 have A:aO (w.alloc (.cells (aK c).toArray 104)) w.heap.size 104 (aK c).toArray:=aO.new _ _ _;have t:K! w<|w.alloc (.cells (aK c).toArray 104):=R!;have s:=A? λw=>qA c w hz;have u:=i;let⟨H,L,D,C,M,F,q⟩:=qE u;generalize cx c=E at s i;obtain⟨T,g⟩:=E;obtain rfl:g=0:=i;have HF:=A? d;have Sl:=A? l;clear u q d l;unfold aK kz ptr at*
 go_in
 go_wp2_with fail;refine M! (s _) λw1 o=>?_;have e:=aO.below (aO.below h t) o;have j:=A.below o;have y:=t.trans<|o.mono t.size;have I:=(aO.cell e 8).trans bci;have W:=(j.cell 0).trans mcQ;have O:L! w1 b 7<|H? m.taken:=aO.cell e 7;have R:=aO.frozen e 7;have v:jx (w1.setCell (B? b 7)<|H? C?) b {m with taken:=C?}:=aO.set e 7 (H? C?) rfl;have f:=A?<|(Only.aP (S:=λk=>k=b) y).trans<|ay w1 b 7<|H? C?;go_wp2;go_ret2;exact⟨Q!,rfl,bq.nil _ _ _,v,f⟩
theorem OX(i:(cx c).2=0)(d:m.failed=H!)(l:c.code=4):
 G! E? 195 #[ptr b,.agg (aK c).toArray] w (qD b {m with failed:=C?} [] 0 w):=by
 have A:aO (w.alloc (.cells (aK c).toArray 104)) w.heap.size 104 (aK c).toArray:=aO.new _ _ _;have e:K! w<|w.alloc (.cells (aK c).toArray 104):=R!;have s:=A? λw=>qA c w hz;have u:=i;let⟨R,H,L,D,C,M,q⟩:=qE u;generalize cx c=E at s i;obtain⟨T,g⟩:=E;obtain rfl:g=0:=i;have HF:=A? d;have Sl:=A? l;clear u q d l;unfold aK kz ptr at*
 go_in
 go_wp2_with fail;refine M! (s _) λw1 o=>?_;have t:=aO.below (aO.below h e) o;have j:=A.below o;have y:=e.trans<|o.mono e.size;have O:=(aO.cell t 8).trans bci;have F:=(j.cell 0).trans mcQ;have I:=aO.frozen t 8;have v:jx (w1.setCell (B? b 8)<|H? C?) b {m with failed:=C?}:=aO.set t 8 (H? C?) rfl;have f:=A?<|(Only.aP (S:=λk=>k=b) y).trans<|ay w1 b 8<|H? C?;go_wp2;go_ret2;exact⟨Q!,rfl,bq.nil _ _ _,v,f⟩
theorem Sn:
 G! E? 195 #[ptr b,.agg (aK c).toArray] w (qD b (cw m c).1 (cw m c).2.1 (cw m c).2.2 w):=by
 by_cases i:(cx c).2=0
 .by_cases t:m.failed=C?
  .have e:cw m c=(m,[],0):=by unfold cw;rw[F! B!,G? t]
   rw[e];exact I9 h hg hz i t
  .have t:=z! _▸t;obtain⟨l,d,-⟩:=qE i;have s:c.code=1\/c.code=2\/c.code=3\/c.code=4:=B!;rcases s with o|o|o|o
   .have e:cw m c=(m,[⟨2,c.id,gU c.id m.secret c.value,m.name⟩],0):=by unfold cw;rw[F! B!,t,F! I!,G? o]
    rw[e];exact Sk h hg hz i t o
   .rw[I8 i t o];exact Sm h hg hz i t o
   .have e:cw m c=({m with taken:=C?},[],0):=by unfold cw;rw[F! B!,t,F! I!,F! B!,F! B!,G? o]
    rw[e];exact LY h hg hz i t o
   .have e:cw m c=({m with failed:=C?},[],0):=by unfold cw;rw[F! B!,t,F! I!,F! B!,F! B!,F! B!]
    rw[e];exact OX h hg hz i t o
 .have e:cw m c=(m,[],1600):=by unfold cw;rw[G? i]
  rw[e];exact OU h hg hz i
end
theorem nW{p:aF}{k:Int}(h:k∈dR p):au p.links k=true:=dI.2<|(bcv _ _).mem_iff.1 h
theorem j8(p:aF):(dR p).length=p.links.length:=(bb7 _).trans<|g! _
theorem wT{p:aF}(h:(p.links.map (·.1)).Nodup):(dR p).Nodup:=(bcv _ _).nodup_iff.2 h
theorem XA{d:Nat}{v:I?}{R:List Int}(f:bq mU w d v R):∃a c,v=J! a R.length c/\(R=[]\/∃t l,a=C! (B? t l)/\t<w.heap.size/\∀j (s:j<R.length),w.cell? (B? t<|l+j)=N? (R[j])):=by
 rcases f.at with⟨e,i⟩|⟨g,o,c,e,-,-,i,u⟩
 .exact⟨L?,0,by rw[i,e];rfl,.inl e⟩
 .refine⟨_,c,e,.inr ⟨g,o,rfl,i,λj s=>?_⟩⟩;have:=u j s 0 I!;rw[show o+j*mU.size+0=o+j from by show o+j*1+0=_;omega]at this;exact this
def wU(w:D!)(x:eY)(p:aF)(e:Ending)(t:D!):Prop:=∃v,e=.returned v/\ky Ax t w.heap.size v ((dR p).map x.f)/\K! w t
theorem vR(h:cg w G n b x m)(O:ct N r m)(a1:m.links.length<=8)(ad:N<=40000000000):
 G! E? 47 #[ptr b] w (wU w x m):=by
 have F:=h.blk.k 29;have E:=A? h.lm;have V:=A?<|Xz x.lm w
 have l:∀k∈(dY (λk _=>ptr<|x.f k) m.links).map (·.1),-9223372036854775808<=k/\k<=9223372036854775807:=λk l=>by
  rw[i9]at l;obtain⟨⟨i,a5⟩,hi,rfl⟩:=a!.1 l;have:=(O.St i a5 hi).2;have:=O.la1;simp only;omega
 have f:=A? (λ(W:D!) (a3:bp W x.lm (dY (λk _=>ptr (x.f k)) m.links)) (H:Nat) (B:W.cell? (B? H 0)=C! (.map (C! x.lm)))=>by
  have:=PD a3 l (by show(m.links.map _).length<=_;rw[g!];omega) B;rw[i9]at this;exact this)
 have X:gz (m.links.map (·.1))=dR m:=rfl;rw[X]at f;have y:(dR m).length<=8:=by rw[j8];exact a1
 have A:=A? λk (l:k∈dR m)=>nW l;obtain⟨R,aa⟩:=F?<|dR m;unfold wU;rw[aa]at f A y|-;unfold ptr;go_in;go_wp2_with(go_at_call 75;apply V.mono;rintro e w1 ⟨rfl,rfl⟩);have g:K! w<|w.alloc (.cells #[.map<|C! x.lm] 90):=R!;have D:=A?<|f _ (E.below g) w.heap.size ϖ;go_wp2_with(go_at_call 74;apply D.mono;rintro e w2 ⟨v,rfl,a4,Q⟩;obtain⟨a,c,rfl,a6⟩:=XA a4);have u:=g.trans<|Q.mono g.size;have L:=A? a6;have Y:=aw u F;have M:=A?<|E.below u;have I:=u.size;obtain⟨d,S⟩:=F? R.length;rw[S]at y|-;have HN:=A? S;go_wp2;go_loopw[3,13] (λv i wr=>∃j:Nat,j<=d/\i=A! j/\ky Ax wr w2.heap.size v ((R.take j).map x.f)/\K! w2 wr) (λ_ i _=>d-(intOf i).toNat)
 case atStart=>exact⟨0,S! _,rfl,ky.nil _ _ _,P! _ _⟩
 case round=>
  obtain⟨j,ag,rfl,hown,hbr⟩:=hrel;by_cases tN:j<d
  .rcases L with e|⟨ab,al,rfl,ae,hcell⟩
   .have:=HN.out;rw[e]at this;simp at this;omega
   have uL:j<R.length:=mcJ;have a7:=aw hbr<|hcell j uL;have a0:=A _<|l! uL;have ac:=aw hbr Y
   have a2:(Instr.lookup 90 (.map<|C! x.lm) (A! R[j]) H!).run E? wr=.ok (P?<|x.f R[j]) wr:=by
    have:=nQ (M.below hbr) underlying90 underlying3 π R[j];rw[a0,G? rfl]at this;exact this
   have HT:E!<|(R.take<|j+1).map x.f=(R.take j).map x.f++[x.f R[j]]:=A? ncV
   have C:E! ((((R.take j).map x.f).length+1)*Ax.bytes<=140737488355328):=A? (by
    rw[g!,w!];show(_+1)*8<=_;omega)
   generalize R[j]=K at a7 a2 HT;go_wp2_with(at_builtin;refine dz Ax rfl _ _ rfl _ ((R.take j).map x.f) (x.f K) _ hown.1 (λi hi=>(hown.2 i hi).2) rfl _ rfl rfl C I! λam an hq7 ho7 hw7=>?_);exact nax
  .obtain rfl:j=d:=B!;obtain⟨a8,a9,rfl,-,-⟩:=hown.1.form;have J:R.take j=R:=by rw[<-HN.out,v!]
   have Z:ky Ax wr w.heap.size (J! a8 ((R.take j).map x.f).length a9)<|R.map x.f:=⟨by rw[J]at hown|-;exact hown.1,λi hi=>⟨Z? I (hown.2 i hi).1,(hown.2 i hi).2⟩⟩;go_wp2;go_ret;exact⟨_,rfl,Z,u.trans<|hbr.mono I⟩
theorem afs{B:Nat}{l:aM}(h:aS w G n b sb x z)(q:au z.1.links id=H!)(o:Step (λ_=>False) G w G1 w1)(d:cI w1 G1 [n,9,id] B l)(E:Only (λk=>k=x.lm) w1 w2)
 (y:bp w2 x.lm<|bI (dY (λk _=>ptr<|x.f k) z.1.links) id<|ptr B):
 aS w2 (grow G1 w1.heap.size free) n b sb {x with f:=λi=>if i=id then B else x.f i} (bH z.1 id l,z.2)/\Step (bG n) G w (grow G1 w1.heap.size free) w2:=by
 have hx:=h.none o;have s:Step (λu=>u=[n,4]) G1 w1 (grow G1 w1.heap.size free) w2:=Step.of E (λk _ e=>by rw[e,hx.p.tl]) free;have hs:Step (λu=>aq [n,9,id] u\/u=[n,4]) G w (grow G1 w1.heap.size free) w2:=(o.mono λ_ h=>h.elim).trans<|s.mono λu t=>.inr t;have g:=d.step s λu t e=>by rw[e]at t;exact cQ I! t
 exact h.peer (h.p.add q hs g y) rfl (hs.mono λu t=>by
  rcases t with t|rfl
  .exact(aq.app [n] [9,id]).trans t
  .exact aq.app [n] [4])
theorem UX(h:aO w b 94<|gE x m):GZ w b m.c:=by
 intro i v o t;have:=h.cell i;show w.cell? _=_;rw[this];rcases(by omega:i=0\/i=1\/i=2\/i=3\/i=4\/i=5\/i=6\/i=7\/i=8\/i=9\/i=10\/i=11\/i=12\/i=13\/i=14\/i=15\/i=16\/i=17)with e|e|e|e|e|e|e|e|e|e|e|e|e|e|e|e|e|e<;>subst e<;>exact t
theorem XB{p:aF}(t:zm p.c)(e:Int)(o:Bool)(h:0<=e)(l:e<=65535):jL (tX p.c (dZ p) e o)=true:=by
 have i:0<=dZ p/\dZ p<=4294967295:=by
  have:=t.a1;have:=t.am;have:=t.m1;have:=t.bm;unfold dZ;split<;>omega
 have s:0<=(if o then e else 0)/\(if o then e else 0)<=65535:=by
  split<;>omega
 unfold jL tX;simp only[k!,z?];exact⟨⟨⟨⟨⟨⟨rfl,rfl⟩,i.1⟩,i.2⟩,S! _⟩,s.1⟩,s.2⟩
theorem Env.lt(e:Env w G ml):0<w.heap.size:=h! e.m
theorem Ko(E:Int)(H:Bool)(h:aS w G n b sb x z)(ap:Env w G ml)(R:ct N r z.1)(c3:au z.1.links id=H!)(bv:0<=E)(bx:E<=65535)(co:N<=40000000000):
 G! E? 115 #[ptr b,A! id,A! E,H? H] w (fu n b sb G w x z (jC z.1 id E H,z.2) (.tuple #[])):=by
 have b3:=A?<|λ(w1:D!) (h:aO w1 b 94<|gE x z.1)=>qG h;have L:=A?<|aaN id (dZ z.1) E H (UX h.drew.p.blk) (Env.lt ap.drew) ⟨by have:=R.cfg.t2;omega,R.cfg.t10⟩<|XB R.cfg E H bv bx;have b6:=A? h.drew.p.blk;have ag:=A? c3;have bj:E!<|0<=z.1.now/\z.1.now<=40000000000/\0<=z.1.c.restart/\z.1.c.restart<=16:=A? ⟨R.n0,by have:=R.n1;omega,by have:=R.cfg.r2;omega,R.cfg.r16⟩;have c2:=h.n01;let⟨bd,ae⟩:=F?<|dZ z.1;rw[ae]at b3 L;have bf:=A? ae;let⟨g,J⟩:=F?<|iU id z.1.c bd E H;have b8:=A? J;have bl:E!<|g.id=id:=A? (by rw[<-J];rfl);have bo:E!<|g.out=[]:=A? (by rw[<-J];rfl);unfold UK at L;rw[J]at L;unfold ptr at*
 go_wp2
 refine dW (λO=>True) (zca [0,2,4,6,8,12,14,11,17,18]) (trivial) ?_;refine R? ?_;intro ad C;go_wp2_with(go_at_call 124;refine M! (b3 _ b6) λcz bs=>?_;rw[bs]);apply O! C trivial;refine R? ?_;intro ad C;go_wp2_with(go_at_call 152;apply L.mono;rintro e w1 ⟨B,rfl,ck,cn,cp,c1⟩);apply O! C trivial;refine tK ?_
 try(apply aj)
 let⟨G1,c0,ax⟩:=c1 G [n,9,id];have y:=h.drew;have F:=y.none ax;have ch:=F.p.blk.k 29;have be:=A? F.p.lm;have an:=A? λw2 a2 hm=>afs (w2:=w2) y ag ax c0 a2 hm;let⟨D,bk⟩:=F? z.1.last;have a9:=A? bk
 have ba:E!<|∀w2,Only (λk=>k=x.lm) w1 w2->bp w2 x.lm (bI (dY (λk _=>ptr<|x.f k) z.1.links) id<|ptr B)->w2.cell? (B? b 28)=N? D/\w2.frozen? (B? b 28)=H!/\aO w2 b 94 (gE {x with f:=λi=>if i=id then B else x.f i} (bH z.1 id g))/\b<w2.heap.size:=A? λw2 a2 hm=>by
  have q:=(an w2 a2 hm).1.p.blk;exact⟨by rw[<-a9.out];exact q.cell 28,q.frozen 28,q,q.lt⟩
 go_wp2_with(apply eD rfl _ _ _ rfl underlying90 underlying3 id (ptr B) be rfl rfl rfl;intro w2 ao av cr;let⟨ci,cj,bz,cv⟩:=ba w2 av ao;have cb:=A? bz);let⟨b1,c9⟩:=an w2 av ao;let⟨b0,c7⟩:=b1.own (m':={bH z.1 id g with last:=max D id}) (ay w2 b 28<|A!<|max D id) (b1.p.blk.set 28 _ rfl) rfl rfl rfl rfl rfl rfl rfl rfl;let⟨u,X⟩:=F? {bH z.1 id g with last:=max D id};have a1:=A? X;have HK1:E!<|∀k,au u.links k=(decide (k=id)||au z.1.links k):=A? λk=>by rw[<-X];exact lq _ _ _ _
 have a8:E! (lk u id=g):=A? (by
  rw[<-X];show(bt (bI z.1.links id g) id).getD QW=_;rw[iQ,G? rfl];rfl)
 rw[X]at b0;have aa:=A?<|((aB (bG n) G w).trans c9).trans c7;have A:=ng 2 (id:=id) b0 md4 (by rw[a8.out];exact bl);simp only at A;rw[G? trivial]at A;obtain⟨a3,F⟩:∃a3:eY,{x with f:=λi=>if i=id then B else x.f i}=a3:=⟨_,rfl⟩;have bc:E!<|∀k,a3.f k=if k=id then B else x.f k:=A? (by rw[<-F];exact λk=>rfl)
 rw[F]at A;have A:=A? A;generalize w2.setCell (B? b 28) (A!<|max D id)=cc at A aa|-;unfold ptr at A;apply A.mono;rintro e Z ⟨rfl,W,a4,c4,c5,c6⟩;have ab:=A?<|aa.trans c5;have a7:E!<|au (bC u id 2).links id=true:=A?<|(aG (λl=>{l with phase:=2}) md4 id).trans md4
 have b7:E! (lk (bC u id 2) id={g with phase:=2}):=A? (by
  refine(show lk (bC u id 2) id=lk (aN u id<|λl=>{l with phase:=2}) id from rfl).trans ?_;rw[dV,G? rfl,a8.out])
 have ac:E!<|∀k,au u.links k=C?->a4.f k=if k=id then B else x.f k:=A? λk M=>(c6 k M).trans<|bc k
 have a6:E!<|a4.f id=B:=A? (by rw[ac id md4,G? rfl]);have y:=c4.drew;have K:J? Z.drew b 25<|(bC u id 2).now:=y.p.blk.k 25;have V:J? Z.drew b 10<|(bC u id 2).c.restart:=y.p.blk.k 10;have bm:(bC u id 2).now=z.1.now:=by show u.now=_;rw[<-a1.out];rfl
 have br:(bC u id 2).c=z.1.c:=by show u.c=_;rw[<-a1.out];rfl
 rw[bm]at K;rw[br]at V;have I:=R9 (z.1.now+z.1.c.restart) (y.p.mG a7) (ap.uM c2 ab).drew N! (by rw[b7.out];show g.out.length<=_;rw[bo.out];exact S! _);rw[a6.out]at I;have I:=A? I
 have a0:E! (∀a5 O,Step (aq [n,9,id]) W Z.drew a5 O->O.cell? (B? b 25)=N? z.1.now/\O.cell? (B? b 10)=N? z.1.c.restart):=A? λa5 O hs=>⟨hs.cell K (by
  show¬aq [n,9,id] (W b);rw[y.p.tag];intro e;simp[aq]at e),hs.cell V (by
  show¬aq [n,9,id] (W b);rw[y.p.tag];intro e;simp[aq]at e)⟩
 let⟨al,b2⟩:=F? z.1.now;let⟨am,b4⟩:=F? z.1.c.restart;have Y:=bj.out;rw[b2]at K I a0 Y;rw[b4]at V I a0 Y;have L:=A? b2;have bi:=A? b4;obtain⟨Y,cd,ce,cf⟩:=Y;unfold ptr at I;go_wp2;refine dW (λO=>J? O b 25 al/\J? O b 10 am) (zcb [11,1]) (⟨K,V⟩) ?_;refine R? ?_;intro ad C;go_wp2_with(go_at_call 153;apply I.mono;rintro e cy ⟨rfl,b5,ar,az⟩);apply O! C (a0 _ _ az);apply aj;rw[<-a6.out]at ar;let⟨c8,ca⟩:=y.gY a7 az ar;have b9:=A?<|(ab.trans<|aB (bG n) W Z).trans ca;go_wp2;go_end0;refine⟨rfl,b5,a4,?_,b9,λk M=>?_⟩
 .have e:jC z.1 id E H=bH (bC u id 2) id (Bf (lk (bC u id 2) id)<|al+am):=by
   rw[<-a1.out,<-b8.out,<-bf.out,<-a9.out,<-L.out,<-bi.out];rfl
  rw[e];exact c8
 .rw[ac k<|by rw[HK1.out,M];simp,F!];rintro rfl;rw[ag.out]at M;cases M
theorem Ks{b:Nat}{a5 O:I?}{m:dD}{w:D!}(h:gF w b a5 O m)(A:aI w O m.last.opts)(C:m.last.opts.length*24<=140737488355328):
 G! E? 208 #[ptr b] w λe W=>∃R,e=.returned (.agg<|iC m.last R)/\bq dS W w.heap.size R m.last.opts/\K! w W:=by
 have Z:=h.k 8;have a0:=h.k 9;have J:=h.k 10;have Q:=h.k 11;have a6:=h.lt;have H:=A? λw h=>wP m.last O w h C;obtain⟨a7,a8,rfl,-,-⟩:=aD.form A;generalize m.last=L at Z a0 J Q H A C|-;obtain⟨a1,id,Y,j⟩:=L;unfold iC at*
 simp only at*
 unfold ptr;go_in;go_wp2_with fail;refine(H _<|A.below R!).mono ?_;rintro e w1 ⟨R,rfl,E,M⟩;obtain⟨I,S,rfl,-,-⟩:=aD.form E.at;have l:=(aO.new w 157 xae).below M;have D:=(ak (P! w.heap.size w) _).trans<|M.mono N!;have a4:=E.base<|show w.heap.size<=_ from N!
 have a2:∀k,(Value.slice I j.length S).ownBlock=C! k->k≠w.heap.size:=λk d=>by
  have:=E.block k d;simp at this;omega
 have F:E! (∀u f g y:I?,bq dS ((((w1.setCell (B? w.heap.size 0) u).setCell (B? w.heap.size 1) f).setCell (B? w.heap.size 2) g).setCell (B? w.heap.size 3) y) w.heap.size (J! I j.length S) j/\K! w ((((w1.setCell (B? w.heap.size 0) u).setCell (B? w.heap.size 1) f).setCell (B? w.heap.size 2) g).setCell (B? w.heap.size 3) y)):=A? λu f g y=>
  ⟨a4.only (mM w1 w.heap.size u f g y) (λk d a3=>a2 k d a3),D.trans<|(mM w1 w.heap.size u f g y).below D.size λk d=>by rw[d];exact Y? _⟩
 have B:=l.k 0;have V:=l.k 1;have K:=l.k 2;have X:=l.k 3;have a9:=l.frozen 0;have aa:=l.frozen 1;have ab:=l.frozen 2;have ac:=l.frozen 3;go_wp2;exact V? (v:=.agg #[A! a1,A! id,A! Y,J! I j.length S]) (by simp[results,results208,go_sem,B,V,K,X]) rfl ⟨_,rfl,(F _ _ _ _).1,(F _ _ _ _).2⟩
def z8(b:Nat)(o i:I?)(m:dD)(r:cR×Int)(w:D!)(e:Ending)(t:D!):Prop:=∃v,e=.returned (.tuple #[.agg<|iC r.1 v,A! r.2])/\bq dS t w.heap.size v r.1.opts/\gF t b o i m/\Only (· =b) w t
theorem z8.zero{b:Nat}{t o:I?}{m:dD}{n:Int}{w e:D!}(h:gF e b t o m)(i:Only (· =b) w e):z8 b t o m (sK,n) w (.returned (.tuple #[.agg xae,A! n])) e:=
 ⟨Q!,rfl,bq.nil _ _ _,h,i⟩
theorem Tz{b:Nat}{u A:I?}{m:dD}{w:D!}(h:gF w b u A m)(ap:aI w u m.ask.opts)(az:∀k,u.ownBlock=C! k->k≠b)(a0:m.ask.opts.length*24<=140737488355328)(al:0<=m.left/\m.left<=10):
 G! E? 172 #[ptr b] w (z8 b u A (kX m).1 (kX m).2 w):=by
 have D:=h.k 4;have b3:=h.frozen 4;have b4:=h.lt;obtain⟨av,ax⟩:=al;by_cases E:m.left=0
 .have e:kX m=(m,sK,2202):=by unfold kX;rw[G? E]
  rw[e];rw[E]at D;unfold ptr;go_wp2;exact V? (v:=.tuple #[.agg xae,A! 2202]) (by simp[results,results172,go_sem]) rfl<|z8.zero (aO.below h R!)<|(Only.refl _ _).alloc _
 .by_cases l:m.left=1
  .have e:kX m=({m with left:=0},sK,2202):=by unfold kX;rw[F! E,G? l]
   have d:gF (w.setCell (B? b 4)<|A! 0) b u A {m with left:=0}:=aO.set h 4 (A! 0) rfl;have Z:J? (w.setCell (B? b 4)<|A! 0) b 4 0:=d.k 4;rw[e];rw[l]at D;unfold ptr;go_wp2;exact V? (v:=.tuple #[.agg xae,A! 2202]) (by simp[results,results172,go_sem]) rfl<|z8.zero (aO.below d R!)<|(ay w b 4 _).alloc _
  .have e:kX m=({m with left:=m.left-1},m.ask,0):=by unfold kX;rw[F! E,F! l]
   have d:gF (w.setCell (B? b 4)<|A!<|m.left-1) b u A {m with left:=m.left-1}:=aO.set h 4 (A!<|m.left-1) rfl;have Z:J? (w.setCell (B? b 4)<|A!<|m.left-1) b 4<|m.left-1:=d.k 4;have b0:=Q?.2 E;have b1:(m.left-1==0)=false:=Q?.2 B!;have X:J? (w.setCell (B? b 4)<|A!<|m.left-1) b 0 m.ask.code:=d.k 0;have J:J? (w.setCell (B? b 4)<|A!<|m.left-1) b 1 m.ask.id:=d.k 1;have Q:J? (w.setCell (B? b 4)<|A!<|m.left-1) b 2 m.ask.answer:=d.k 2;have aa:=d.k 3;have I:aI (w.setCell (B? b 4)<|A!<|m.left-1) u m.ask.opts:=aD.only ap (ay w b 4 _) az;have V:=A? λw h=>wP m.ask u w h a0;rw[e];obtain⟨M,ac⟩:∃M:dD,{m with left:=m.left-1}=M:=⟨_,rfl⟩;rw[ac]at d|-;let⟨L,R⟩:=F? m.left;let⟨a3,ab⟩:=F? m.ask;rw[R]at D Z b0 b1 X J Q aa d I av ax;rw[ab]at X J Q I V a0|-;have b5:L≠0:=by rw[<-R];exact E
   have b7:2<=L:=by rw[<-R];omega
   obtain⟨a9,id,a4,O⟩:=a3;obtain⟨a1,a2,rfl,-,-⟩:=aD.form I;unfold iC at*
   simp only at*
   unfold ptr;go_in;go_wp2_with fail;let⟨H,C⟩:=F?<|w.setCell (B? b 4)<|A!<|L-1;have ae:Only (· =b) w H:=by rw[<-C];exact ay w b 4 _
   have hz0:H.heap.size=w.heap.size:=by rw[<-C];simp
   rw[C]at d I|-;have an:aO (H.alloc (.cells xae 157)) w.heap.size 157 xae:=na7;have K:=A? hz0;refine(V _<|I.below R!).mono ?_;rintro e w1 ⟨b8,rfl,W,F⟩;obtain⟨Y,B,rfl,-,-⟩:=aD.form W.at;have l:=an.below F;have ad:gF w1 b (J! a1 O.length a2) A M:=(aO.below d R!).below F;have ag:=(ae.alloc _).then F;have ar:=W.base (show w.heap.size<=_ by rw[<-K.out];simp)
   have am:∀k,(Value.slice Y O.length B).ownBlock=C! k->k≠w.heap.size:=λk S=>by
    have:=W.block k S;have b6:=K.out;simp at this;omega
   have b2:E! (∀f g y j:I?,bq dS ((((w1.setCell (B? w.heap.size 0) f).setCell (B? w.heap.size 1) g).setCell (B? w.heap.size 2) y).setCell (B? w.heap.size 3) j) w.heap.size (J! Y O.length B) O/\gF ((((w1.setCell (B? w.heap.size 0) f).setCell (B? w.heap.size 1) g).setCell (B? w.heap.size 2) y).setCell (B? w.heap.size 3) j) b (J! a1 O.length a2) A M/\Only (· =b) w ((((w1.setCell (B? w.heap.size 0) f).setCell (B? w.heap.size 1) g).setCell (B? w.heap.size 2) y).setCell (B? w.heap.size 3) j)):=A? λf g y j=>
    ⟨ar.only (mM w1 w.heap.size f g y j) (λk S ao=>am k S ao),aO.only ad (mM w1 w.heap.size f g y j) B!,ag.and (mM w1 w.heap.size f g y j) λk S=>.inr B!⟩
   have a5:=l.k 0;have a6:=l.k 1;have a7:=l.k 2;have a8:=l.k 3;have b9:=l.frozen 0;have ba:=l.frozen 1;have bc:=l.frozen 2;have bd:=l.frozen 3;go_wp2;exact V? (v:=.tuple #[.agg #[A! a9,A! id,A! a4,J! Y O.length B],A! 0]) (by simp[results,results172,go_sem,a5,a6,a7,a8]) rfl ⟨_,rfl,b2 _ _ _ _⟩
def MC(b:Nat)(i:I?)(m:dD)(B:cR)(w:D!)(e:Ending)(t:D!):Prop:=
 ∃v o,e=.returned (.tuple #[.agg<|iC B v,.int .i64 0])/\bq dS t w.heap.size v B.opts/\bq dS t w.heap.size o B.opts/\gF t b o i {m with id:=B.id,ask:=B,left:=m.tries}/\Only (· =b) w t/\∀k,v.ownBlock=C! k->o.ownBlock≠C! k
def ahB(B b:Nat)(t J:Int)(v:I?)(o:Int)(e:D!):Prop:=J? e B 0 t/\J? e B 1 J/\J? e B 2 0/\L! e B 3 v/\J? e b 6 o
theorem adA{b:Nat}{c1 a1 v:I?}{m:dD}{f:Int}{u:List bD}{w:D!}(h:gF w b c1 a1 m)(cy:aI w v u)(cr:m.left=0)(e8:0<=m.id/\m.id<=255)(bx:(dJ ⟨f,(m.id+1)%256,0,u⟩).2=0)(cv:fO f=C?)(c8:∀k,v.ownBlock=C! k->k≠b):
 G! E? 175 #[ptr b,.int .i64 f,v] w (MC b a1 m ⟨f,(m.id+1)%256,0,u⟩ w):=by
 let⟨ek,el,d0,d1,d2⟩:=vY bx;have ad:=A? λv w h=>tC ⟨f,(m.id+1)%256,0,u⟩ v w h;have c7:=A? λv w h=>qx v u w h d2;have be:=A? λv w h=>wP ⟨f,(m.id+1)%256,0,u⟩ v w h d2;have c9:=A? λw=>kV f w;rw[cv]at c9;generalize dJ ⟨f,(m.id+1)%256,0,u⟩=d7 at ad bx;obtain⟨T,e0⟩:=d7;obtain rfl:e0=0:=bx;clear cv;have b7:=h.k 4;have cc:=h.k 6;have ae:=h.k 7;have ei:=h.lt;rw[cr]at b7;generalize m.id=a3 at ae e8 ad be d0 d1|-;let⟨a2,a0⟩:=F? m.tries;rw[a0]at cc;have ej:IntKind.i64.wrap (a3+1)=a3+1:=mdG;let⟨J,bl⟩:=F?<|(a3+1)%256;have eh:(a3+1).tmod 256=J:=by rw[<-bl,baB B!]
 rw[bl]at ad be d0 d1|-;have d9:=A? h;have bf:=A? cy;have ef:=A? c8;have da:=A? a0;clear h cy cr bl c8 a0;unfold kz at ad;unfold iC at*
 obtain⟨er,es,rfl,-,-⟩:=aD.form bf;unfold ptr MC;go_wp2;refine wO (λI=>J? I b 7 a3) (.two [(0,C?),(1,C?),(2,C?),(3,C?),(4,C?),(5,C?),(6,C?),(7,C?)] 8 10 (.fin [(9,C?),(10,H!),(11,H!)]) (.fin [(8,H!),(9,C?),(11,H!)])) M? M? rfl M? M? M? (aw R! ae) (λ_ d _ _ _ h=>bav) ?_;have al:=(aO.new w 157 xag).below<|aQ U?;let⟨ab,bz⟩:=F?<|(w.alloc (.cells xag 157)).drew;have a8:K! w ab:=by rw[<-bz];exact aQ R!
 rw[bz]at al|-;clear bz;have dj:=al.lt;have hS:E!<|∀I,K! w I->J? I b 7 a3:=A? λI h=>aw h ae;simp only[tB,fQ,ύ,ϟ,baM,baO,baA,p?];refine T? ?_;refine jf ?_ ?_
 focus
  refine dg λdb K y=>?_;go_wp2_with(go_at_call 219;refine(c7 _ ab<|bf.below a8).mono ?_;rintro e w2 ⟨⟨ec,rfl,F⟩,V⟩;obtain⟨j,E,rfl,-,-⟩:=aD.form F.at);have R:=a8.trans<|V.mono a8.size;apply O! y (hS _ R);clear y K;show bO _ _ _ _ _ _ _;refine R? ?_;intro K y;go_wp2_with fail;let⟨ax,hw3⟩:=F?<|w2.alloc (.cells xag 157);have A:aO ax w2.heap.size 157 xag:=bcl;have W:K! w2 ax:=mb2;rw[hw3];clear hw3;have a7:=R.trans<|W.mono R.size;have bi:=(F.below W).base<|show w.heap.size<=_ from B!;have bo:=(al.below V).below W;have ap:=F.block;have a4:=F.lt;have ea:=V.size;apply O! y (hS _ a7);clear y K;generalize w2.heap.size=B at A ea a4|-;have b6:∀k,(Value.slice j u.length E).ownBlock=C! k->k≠B/\k≠w.heap.size:=λk g=>by have:=ap k g;have:=a4 k g;omega
  have e7:w.heap.size<B:=B!;clear F V R W ap a4
 rotate_left
 focus
  refine dg λdb K y=>?_;go_wp2_with fail;let⟨w2,hw2⟩:=F?<|ab.alloc (.cells xag 157);have bj:aO w2 ab.heap.size 157 xag:=mbc;have V:K! ab w2:=mb8;rw[hw2];clear hw2;have R:=a8.trans<|V.mono a8.size;apply O! y (hS _ R);clear y K;show bO _ _ _ _ _ _ _;refine ai λK y=>?_;go_wp2_with(go_at_call 219;refine(c7 _ w2<|bf.below R).mono ?_;rintro e ax ⟨⟨ec,rfl,F⟩,W⟩;obtain⟨j,E,rfl,-,-⟩:=aD.form F.at);have A:=bj.below W;have a7:=R.trans<|W.mono R.size;have bi:=F.base (show w.heap.size<=_ by have:=R.size;omega);have bo:=(al.below V).below W;have ap:=F.block;have a4:=bj.lt;apply O! y (hS _ a7);clear y K;refine tK ?_;generalize ab.heap.size=B at A a4 dj|-;have b6:∀k,(Value.slice j u.length E).ownBlock=C! k->k≠B/\k≠w.heap.size:=λk g=>by have:=ap k g;omega
  have e7:w.heap.size<B:=B!;clear F V R W ap a4 bj
 all_goals
  have dd:=A.cell 0;have de:=A.cell 1;have df:=A.cell 2;have dh:=A.cell 3;have d3:=A.frozen 0;have d4:=A.frozen 1;have d5:=A.frozen 2;have d6:=A.frozen 3;refine ai λK y=>?_;go_wp2_with fail;have Z:=((((A.set 0 (.int .i64 f) rfl).set 1 (.int .i64 J) rfl).set 2 (.int .i64 0) rfl).set 3 (J! j u.length E) rfl);have ac:=mM ax B (.int .i64 f) (.int .i64 J) (.int .i64 0)<|J! j u.length E;generalize (((ax.setCell (B? B 0) (.int .i64 f)).setCell (B? B 1) (.int .i64 J)).setCell (B? B 2) (.int .i64 0)).setCell (B? B 3) (J! j u.length E)=eg at Z ac|-;have bc:=a7.trans (ac.below a7.size λk g=>by rw[g];omega);have c6:=bi.only ac λk g e=>(b6 k g).1 e;have co:=bo.only ac B!;apply O! y (hS _ bc);clear y K;apply aj;have b0:=Z.k 0;have b1:=Z.k 1;have b2:=Z.k 2;have b3:=Z.k 3;clear dd de df dh d3 d4 d5 d6 A ac a7 bi bo hS a8 al;go_wp2_with fail;refine M! (ad _ _ c6.at) λc3 an=>?_;have a5:=Z.below an;have am:=bc.trans<|an.mono bc.size;have c2:=c6.below an;have cj:=co.below an;have bv:gF c3 b c1 a1 m:=aO.below d9 am;clear b0 b1 b2 b3 Z bc c6 co an;have ce:B≠b:=B!;have b0:=a5.k 0;have b1:=a5.k 1;have b2:=a5.k 2;have b3:=a5.k 3;have b7:=aw am b7;have dk:=aw am ae;have e1:=bv.frozen 7;have b8:aO (c3.setCell (B? b 7) (.int .i64 J)) b 161<|kM c1 a1 {m with id:=J}:=aO.set bv 7 (.int .i64 J) rfl;have a9:=ay c3 b 7 (.int .i64 J);go_wp2_with fail;apply(c9 _).mono;rintro e I ⟨rfl,rfl⟩;go_wp2_with fail;generalize I.setCell (B? b 7) (.int .i64 J)=c4 at b8 a9|-;have bk:=a5.only a9 ce;have c0:=c2.only a9 λk g e=>by have:=c2.block k g;omega
  have ck:=cj.only a9<|show w.heap.size≠b from B!;have cf:=(Only.aP am).trans a9;have ca:=c0.block;have bs:E!<|∀I x c5,aO I B 157 #[.int .i64 f,.int .i64 J,.int .i64 0,J! j u.length E]->aO I b 161 (kM x a1 c5)->c5.tries=a2->ahB B b f J (J! j u.length E) a2 I:=A? λI x c5 h k e=>⟨h.cell 0,h.cell 1,h.cell 2,h.cell 3,by rw[<-e];exact k.cell 6⟩;have a0:=da.out;clear a5 c2 cj bv b7 dk e1 b0 b1 b2 b3 am a9 cc ae;have X:=aQ<|P! c4.heap.size c4;refine dW (ahB B b f J (J! j u.length E) a2) (zcb [9,1]) (bs _ _ _ (bk.below<|aQ U?) (b8.below<|aQ U?) a0) ?_;refine tR ?_;generalize c4.drew=Y at X|-;have cd:=bk.below X;have O:=b8.below X;have cz:=c0.below X;have cn:=ck.below X;have ch:=cf.then X;refine tK ?_;have ds:J? Y b 0 m.ask.code:=O.k 0;have dt:J? Y b 1 m.ask.id:=O.k 1;have du:J? Y b 2 m.ask.answer:=O.k 2;have dv:=O.k 3;have dy:J? Y b 4 m.left:=O.k 4;have e2:=O.frozen 0;have e3:=O.frozen 1;have e4:=O.frozen 2;have e5:=O.frozen 3;have e6:=O.frozen 4;refine ai λK y=>?_;go_wp2_with fail
  have b9:aO (((((Y.setCell (B? b 0) (.int .i64 f)).setCell (B? b 1) (.int .i64 J)).setCell (B? b 2) (.int .i64 0)).setCell (B? b 3)<|J! j u.length E).setCell (B? b 4) (.int .i64 a2)) b 161<|kM (J! j u.length E) a1 {m with id:=J,ask:=⟨f,J,0,u⟩,left:=m.tries}:=by
   rw[show Value.int .i64 a2=.int .i64 m.tries by rw[a0]];exact((((O.set 0 _ rfl).set 1 _ rfl).set 2 _ rfl).set 3 _ rfl).set 4 _ rfl
  have aa:Only (λi=>i=b) Y<|((((Y.setCell (B? b 0) (.int .i64 f)).setCell (B? b 1) (.int .i64 J)).setCell (B? b 2) (.int .i64 0)).setCell (B? b 3)<|J! j u.length E).setCell (B? b 4) (.int .i64 a2):=(((((Only.refl (λk=>k=b) Y).set (.inl rfl) _).set (.inl rfl) _).set (.inl rfl) _).set (.inl rfl) _).set (.inl rfl) _;generalize ((((Y.setCell (B? b 0) (.int .i64 f)).setCell (B? b 1) (.int .i64 J)).setCell (B? b 2) (.int .i64 0)).setCell (B? b 3)<|J! j u.length E).setCell (B? b 4) (.int .i64 a2)=ee at b9 aa|-;have a6:=cd.only aa ce;have bd:=cz.only aa λk g e=>by have:=ca k g;omega
  have br:=cn.only aa<|show w.heap.size≠b from B!;have bm:=ch.trans aa;apply O! y (bs _ _ _ a6 b9 a0);clear y K;apply aj;clear ds dt du dv dy e2 e3 e4 e5 e6 cd O cz cn ch bk b8 c0 ck cf X aa bs;have b0:=a6.k 0;have b1:=a6.k 1;have b2:=a6.k 2;have b3:=a6.k 3;go_wp2_with fail;apply(be _ ee bd.at).mono;rintro e az ⟨eq,rfl,ar,ao⟩;obtain⟨b4,b5,rfl,-,-⟩:=aD.form ar.at;have eb:=bm.size;have M:=br.below ao;have cp:=b9.below ao;have cb:=bd.below ao;have ci:=bm.then ao;have ag:=λH L D C:I?=>mM az w.heap.size H L D C
  have ba:E! (∀H L D C:I?,bq dS ((((az.setCell (B? w.heap.size 0) H).setCell (B? w.heap.size 1) L).setCell (B? w.heap.size 2) D).setCell (B? w.heap.size 3) C) w.heap.size (J! b4 u.length b5) u/\bq dS ((((az.setCell (B? w.heap.size 0) H).setCell (B? w.heap.size 1) L).setCell (B? w.heap.size 2) D).setCell (B? w.heap.size 3) C) w.heap.size (J! j u.length E) u/\
   gF ((((az.setCell (B? w.heap.size 0) H).setCell (B? w.heap.size 1) L).setCell (B? w.heap.size 2) D).setCell (B? w.heap.size 3) C) b (J! j u.length E) a1 {m with id:=J,ask:=⟨f,J,0,u⟩,left:=m.tries}/\Only (· =b) w ((((az.setCell (B? w.heap.size 0) H).setCell (B? w.heap.size 1) L).setCell (B? w.heap.size 2) D).setCell (B? w.heap.size 3) C)):=A? λH L D C=>
   ⟨(ar.base eb).only (ag H L D C) (λk g e=>by have:=ar.block k g;have:=br.lt;omega),cb.only (ag H L D C) (λk g e=>(b6 k g).2 e),aO.only cp (ag H L D C) (show b≠w.heap.size from B!),ci.and (ag H L D C) λk g=>.inr B!⟩
  have d8:E!<|∀k,(Value.slice b4 u.length b5).ownBlock=C! k->(Value.slice j u.length E).ownBlock≠C! k:=A? λk g e9=>by have:=ar.block k g;have:=bd.lt k e9;omega
  have em:=M.cell 0;have en:=M.cell 1;have eo:=M.cell 2;have ep:=M.cell 3;have d3:=M.frozen 0;have d4:=M.frozen 1;have d5:=M.frozen 2;have d6:=M.frozen 3;have av:=(((M.set 0 (.int .i64 f) rfl).set 1 (.int .i64 J) rfl).set 2 (.int .i64 0) rfl).set 3 (J! b4 u.length b5) rfl;have dl:_=C! (Value.int .i64 f):=av.cell 0;have dp:_=C! (Value.int .i64 J):=av.cell 1;have dq:_=C! (Value.int .i64 0):=av.cell 2;have dr:_=C! (Value.slice b4 u.length b5):=av.cell 3;clear b0 b1 b2 b3 ar ao M cp cb ci ag av a6 b9 bd br bm b6 ca;go_wp2;exact V? (v:=.tuple #[.agg #[.int .i64 f,.int .i64 J,.int .i64 0,J! b4 u.length b5],.int .i64 0]) (by simp[results,results175,go_sem,dl,dp,dq,dr]) rfl ⟨_,_,rfl,(ba _ _ _ _).1,(ba _ _ _ _).2.1,(ba _ _ _ _).2.2.1,(ba _ _ _ _).2.2.2,d8⟩
