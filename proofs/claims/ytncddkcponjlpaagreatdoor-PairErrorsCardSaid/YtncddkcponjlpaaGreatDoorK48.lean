/- Walks and plain laws. -/
import Derived.Test.YtncddkcponjlpaaGreatDoorK47
set_option linter.unusedVariables false
set_option linter.unusedSectionVars false
set_option linter.unusedSimpArgs false
set_option maxHeartbeats 0
set_option maxRecDepth 99999
namespace Go.Proofs.YtncddkcponjlpaaGreatDoor
open Go.RowKit Go.Proofs.Tryz
open Go renaming World→D!,Value→I?,Calls→G!,IntKind→ncy
open Go.RowKit renaming Hid→E!
open Decidable renaming decide→K?
open Option renaming some→C!,none→L?
open Bool renaming true→C?,false→H!
open Go.Proofs.Tryz renaming prog→E?
variable{P:Prop}
variable{w w1 w2 W:D!}{G G1 G2:Nat->Tag}{pb a b sb ab N:Nat}{va vb:I?}{m m':fD}{ml:Int}
section
variable(n:Int)(d:ByteArray)(h:bQ w G pb a b sb va vb m)(he:Env w G ml)(hf:cO N m)(hN:N<=40000000000)
include n d h he hf hN
theorem Qt:
 G! E? 35 #[ptr pb,.agg #[A! 1,A! 0,A! n,D? d]] w λe S=>e=.returned (A! (bE m.a d).2)/\∃f,bL G w pb a b sb f vb {m with a:=(bE m.a d).1,cr:=if(bE m.a d).2=0 then m.cr++[d]else m.cr} S:=by
 let⟨A,H,g,u,z⟩:=kS h he #[A! 1,A! 0,A! n,D? d];have l:=A?<|MO 1 n d A u z hf hN;let⟨W,E⟩:=F?<|w.alloc (.cells #[A! 1,A! 0,A! n,D? d] 34);let⟨Q,R⟩:=F? w.heap.size;rw[E]at u l g;rw[R]at u l g;have L:=u.k 0;obtain⟨y,j⟩:∃y:Int,(bE m.a d).2=y:=⟨_,rfl⟩;generalize ({m with a:=(bE m.a d).1,cr:=if(bE m.a d).2=0 then m.cr++[d]else m.cr}:fD)=M at l|-;rw[j]at l|-;unfold ptr at*
 go_in
 go_wp2_with(go_at_call 54;apply l.mono;rintro e w2 ⟨rfl,f,G2,O,I⟩);have k:=A? (⟨G2,O,g.trans I⟩:bL G w pb a b sb f vb M w2);go_ret;exact⟨rfl,f,k⟩
theorem Qu:
 G! E? 35 #[ptr pb,.agg #[A! 1,A! 1,A! n,D? d]] w λe S=>e=.returned (A! (bE m.b d).2)/\∃f,bL G w pb a b sb va f {m with b:=(bE m.b d).1,cH:=if(bE m.b d).2=0 then m.cH++[d]else m.cH} S:=by
 let⟨A,H,g,u,z⟩:=kS h he #[A! 1,A! 1,A! n,D? d];have l:=A?<|MQ 1 n d A u z hf hN;let⟨W,E⟩:=F?<|w.alloc (.cells #[A! 1,A! 1,A! n,D? d] 34);let⟨Q,R⟩:=F? w.heap.size;rw[E]at u l g;rw[R]at u l g;have L:=u.k 0;obtain⟨y,j⟩:∃y:Int,(bE m.b d).2=y:=⟨_,rfl⟩;generalize ({m with b:=(bE m.b d).1,cH:=if(bE m.b d).2=0 then m.cH++[d]else m.cH}:fD)=M at l|-;rw[j]at l|-;unfold ptr at*
 go_in
 go_wp2_with(go_at_call 54;apply l.mono;rintro e w2 ⟨rfl,f,G2,O,I⟩);have k:=A? (⟨G2,O,g.trans I⟩:bL G w pb a b sb va f M w2);go_ret;exact⟨rfl,f,k⟩
end
theorem Jr(p n:Int)(d:ByteArray)(h:bQ w G pb a b sb va vb m)(j:Env w G ml)(g:p≠0)(y:p≠1):
 G! E? 35 #[ptr pb,.agg #[A! 1,A! p,A! n,D? d]] w λe A=>e=.returned (A! 2700)/\bL G w pb a b sb va vb m A:=by
 let⟨z,S,E,l,I⟩:=kS h j #[A! 1,A! p,A! n,D? d];have u:=A?<|Iw (pb:=pb) 1 p n d l g y;have HF:=A? (⟨_,z,E⟩:bL G w pb a b sb va vb m<|w.alloc (.cells #[A! 1,A! p,A! n,D? d] 34));let⟨W,k⟩:=F?<|w.alloc (.cells #[A! 1,A! p,A! n,D? d] 34);let⟨Q,O⟩:=F? w.heap.size;rw[k]at l u HF;rw[O]at l u;have R:=l.k 0;unfold ptr at*
 go_in
 go_wp2_with(go_at_call 54;refine M! u λH f=>?_;rw[f]);exact bas
theorem adY(k p n:Int)(d:ByteArray)(h:bQ w G pb a b sb va vb m)(f:Env w G ml)(O:k<0\/8<k):
 G! E? 35 #[ptr pb,.agg #[A! k,A! p,A! n,D? d]] w λe j=>e=.returned (A! 2700)/\bL G w pb a b sb va vb m j:=by
 let⟨g,A,y,l,E⟩:=kS h f #[A! k,A! p,A! n,D? d];have HF:=A? (⟨_,g,y⟩:bL G w pb a b sb va vb m<|w.alloc (.cells #[A! k,A! p,A! n,D? d] 34));let⟨W,u⟩:=F?<|w.alloc (.cells #[A! k,A! p,A! n,D? d] 34);let⟨Q,z⟩:=F? w.heap.size;rw[u]at l HF;rw[z]at l;have Y:=l.k 0;have I:(k==0)=false:=Q?.2 B!;have S:(k==1)=false:=Q?.2 B!;have R:(k==2)=false:=Q?.2 B!;have H:(k==3)=false:=Q?.2 B!;have L:(k==4)=false:=Q?.2 B!;have D:(k==5)=false:=Q?.2 B!;have C:(k==6)=false:=Q?.2 B!;have M:(k==7)=false:=Q?.2 B!;have F:(k==8)=false:=Q?.2 B!;unfold ptr at*
 go_wp2
 exact bas
theorem Yd(p n:Int)(d:ByteArray)(h:bQ w G pb a b sb va vb m)(E:Env w G ml):
 G! E? 35 #[ptr pb,.agg #[A! 6,A! p,A! n,D? d]] w λe I=>e=.returned (A!<|if n<0\/1099511627776<n then 2700 else 0)/\bL G w pb a b sb va vb (if n<0\/1099511627776<n then m else{m with random:=n}) I:=by
 let⟨l,C,f,u,L⟩:=kS h E #[A! 6,A! p,A! n,D? d];let⟨W,z⟩:=F?<|w.alloc (.cells #[A! 6,A! p,A! n,D? d] 34);let⟨Q,S⟩:=F? w.heap.size;rw[z]at u l f;rw[S]at u l f;have HF:=A? (⟨_,l,f⟩:bL G w pb a b sb va vb m W)
 have k:E! (bL G w pb a b sb va vb {m with random:=n} (W.setCell (B? pb 4) (A! n))):=A? (by
  let⟨A,O⟩:=l.own (t:=m.time) (r:=n) (ay W pb 4 _)<|l.blk.set 4 _ rfl;exact⟨_,A,f.trans O⟩)
 have M:=u.k 0;have F:=u.k 2;have R:=l.blk.k 4;have H:=l.blk.frozen 4;unfold ptr at*
 by_cases g:n<0
 .rw[G? (.inl g),G? (.inl g)];go_wp2;exact bas
 .by_cases y:1099511627776<n
  .rw[G? (.inr y),G? (.inr y)];have j:0<=n:=B!;go_wp2;exact bas
  .rw[F! B!,F! B!];have j:0<=n:=B!;have D:n<=1099511627776:=B!;go_wp2;go_ret;exact⟨rfl,k⟩
theorem Uc(A:Bg)(h:bQ w G pb a b sb va vb m)(o:Env w G ml)(i:cO N m)(s:N<=40000000000)(r:(A.data.size:Int)<=9223372036854775807)(y: -9223372036854775808<=A.n)(v:A.n<=9223372036854775807)
 (f:A.kind=0->A.n<=4096->0<=A.n->N+1200000*A.n.toNat<=40000000000)(g:A.kind=4->TnC m.s A.n A.peer A.data):
 G! E? 35 #[ptr pb,.agg #[A! A.kind,A! A.peer,A! A.n,D? A.data]] w λe t=>e=.returned (A! (gr m A).2)/\∃j q,bL G w pb a b sb j q (gr m A).1 t:=by
 obtain⟨k,p,n,d⟩:=A;simp only at r y v f g|-;rcases(by omega:k=0\/k=1\/k=2\/k=3\/k=4\/k=5\/k=6\/k=7\/k=8\/(k<0\/8<k))with rfl|rfl|rfl|rfl|rfl|rfl|rfl|rfl|rfl|z
 .have e:gr m ⟨0,p,n,d⟩=if n<1\/4096<n\/1073741824<m.time+n then(m,2700)else(bV n.toNat m,0):=rfl
  rw[e];refine M! (ab1 p n d h o i y v<|f rfl) λt k1=>?_;exact nbh
 .by_cases l:p=0
  .subst l;apply(Qt n d h o i s).mono;rintro e t ⟨rfl,u,k1⟩;exact⟨rfl,u,vb,k1⟩
  .by_cases c:p=1
   .subst c;apply(Qu n d h o i s).mono;rintro e t ⟨rfl,u,k1⟩;exact⟨rfl,va,u,k1⟩
   .have e:gr m ⟨1,p,n,d⟩=(m,2700):=by
     unfold gr;simp only;rw[F! I!,G? trivial,F! l,F! c]
    rw[e];refine M! (Jr p n d h o l c) λt k1=>?_;exact⟨rfl,va,vb,k1⟩
 .exact(afR p n d h o i s r).mono λe t h=>⟨h.1,va,vb,h.2⟩
 .exact(adZ p n d h o i s r).mono λe t h=>⟨h.1,va,vb,h.2⟩
 .exact(ad0 p n d h o i s r<|g rfl).mono λe t h=>⟨h.1,va,vb,h.2⟩
 .exact(ad1 p n d h o i s r).mono λe t h=>⟨h.1,va,vb,h.2⟩
 .have e:gr m ⟨6,p,n,d⟩=if n<0\/1099511627776<n then(m,2700)else({m with random:=n},0):=rfl
  rw[e];refine M! (Yd p n d h o) λt k1=>?_;exact nbh
 .exact(ad2 p n d h o i s r).mono λe t h=>⟨h.1,va,vb,h.2⟩
 .exact(adX p n d h o).mono λe t h=>⟨h.1,va,vb,h.2⟩
 .have e:gr m ⟨k,p,n,d⟩=(m,2700):=by
   unfold gr;simp only;rw[F! B!,F! B!,F! B!,F! B!,F! B!,F! B!,F! B!,F! B!,F! B!]
  rw[e];refine M! (adY k p n d h o z) λt k1=>?_;exact⟨rfl,va,vb,k1⟩
