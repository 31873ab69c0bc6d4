/- Walks and plain laws. -/
import Derived.Test.YtncddkcponjlpaaGreatDoorK44
set_option linter.unusedVariables false
set_option linter.unusedSectionVars false
set_option linter.unusedSimpArgs false
set_option maxHeartbeats 0
set_option maxRecDepth 99999
namespace Go.Proofs.YtncddkcponjlpaaGreatDoor
open Go.RowKit Go.Proofs.Tryz
open Go renaming World→D!,Value→I?,Calls→G!,IntKind→ncy
open Go.RowKit renaming Hid→E!
open Decidable renaming decide→K?
open Option renaming some→C!,none→L?
open Bool renaming true→C?,false→H!
open Go.Proofs.Tryz renaming prog→E?
variable{P:Prop}
variable{w w1 w2 W:D!}{G G1 G2:Nat->Tag}{pb a b sb N:Nat}{va vb:I?}{m m':fD}{ml:Int}
def wj(m:fD)(v:Int)(j:Nat):fD:=if j=0 then m else if j=1 then{m with a:=(jD m.a v).1}else{m with a:=(jD m.a v).1,b:=(jD m.b v).1}
theorem MN(v:Int)(h:bQ w G pb a b sb va vb m):
 G! E? 61 #[ptr pb,A! v] w λe n=>e=.returned (A! (jD m.b v).2)/\bL G w pb a b sb va vb {m with a:=(jD m.a v).1,b:=(jD m.b v).1} n:=by
 have M:=h.blk.k 0;have F:=h.blk.k 1;have R:E!<|bL G w pb a b sb va vb (wj m v 0) w:=A? ⟨G,h,Step.refl _ _ _⟩
 have S:E!<|∀W,bL G w pb a b sb va vb (wj m v 0) W->G! E? 80 #[ptr a,A! v] W λe n=>∃x,e=.returned (A! x)/\bL G w pb a b sb va vb (wj m v 1) n:=A? λW k=>by
  obtain⟨I,l,z⟩:=k;apply(KE v l.adV (.inl rfl)).mono;rintro e n ⟨rfl,u,E,d⟩;exact⟨_,rfl,u,l.abW E d,z.trans<|d.mono<|sE (.inl rfl)⟩
 have O:E!<|∀W,bL G w pb a b sb va vb (wj m v 1) W->G! E? 80 #[ptr b,A! v] W λe n=>e=.returned (A! (jD m.b v).2)/\bL G w pb a b sb va vb (wj m v 2) n:=A? λW k=>by
  obtain⟨I,l,z⟩:=k;apply(KE v l.adW (.inr rfl)).mono;rintro e n ⟨rfl,u,E,d⟩;exact⟨rfl,u,l.abX E d,z.trans<|d.mono<|sE (.inr rfl)⟩
 generalize (jD m.b v).2=A at O|-;unfold ptr at*
 go_wp2
 go_loopw[12,5] (λi e wr=>∃j:Nat,j<=2/\i=A! j/\(∃x,e=A! x/\(j=2->x=A))/\E! (bL G w pb a b sb va vb (wj m v j) wr)) (λi _ _=>2-(intOf i).toNat)
 case atStart=>exact⟨0,I!,rfl,⟨0,rfl,λe=>ϱ⟩,R⟩
 case round=>
  obtain⟨j,Y,rfl,⟨x,rfl,L⟩,g⟩:=hrel;rcases(by omega:j=0\/j=1\/j=2)with rfl|rfl|rfl
  .have H:=Vc a b wr;have f:=A?<|S _ g.out;go_wp2_with fail;apply f.mono;rintro e D ⟨C,rfl,y⟩;go_wp2;go_roundw
   case rel=>exact⟨1,I!,rfl,⟨C,rfl,λe=>ϱ⟩,y⟩
   case measure=>simp[intOf]
  .have H:=Vd a b wr;have f:=A?<|O _ g.out;go_wp2_with fail;refine M! f λD y=>?_;go_wp2;go_roundw
   case rel=>exact⟨2,I!,rfl,⟨A,rfl,λ_=>rfl⟩,y⟩
   case measure=>simp[intOf]
  .obtain rfl:=L rfl;go_wp2;go_ret;exact⟨rfl,g.out⟩
section
variable(h:bQ w G pb a b sb va vb m){v:I?}{cs:List ByteArray}
include h
theorem bQ.ahO(ho:Only (λk=>k=pb\/va.ownBlock=C! k) w w1)(q:aO w1 pb 76 #[ptr a,ptr b,ptr sb,A! m.time,A! m.random,v,vb])(E:jd fB w1 v cs)
 (A:∀k,v.ownBlock=C! k->va.ownBlock=C! k\/(w.heap.size<=k/\k<w1.heap.size)):bL G w pb a b sb v vb {m with cr:=cs} w1:=by
 have hs:Step (λu=>u=[3]\/u=[3,0]) G w (λk=>if k<w.heap.size then G k else[3,0]) w1:=Step.rule ho (λk _ e=>e.imp (λe=>Ψ)<|λe=>(h.ta.2 k e).2) _
 have t:∀c s u,c≠3->aq (c::s) u->¬(λu=>u=[3]\/u=[3,0]) u:=λc s u O hu e=>by
  exact nc1
 obtain⟨o,i,⟨x,n,r⟩,⟨y,l,d⟩,f,g,j⟩:=h;refine⟨_,⟨q,(hs.old _ o.lt).trans i,⟨x,n.step hs λu=>t 0 [] u I!,r⟩,⟨y,l.step hs λu=>t 1 [] u I!,d⟩,f.step hs λu=>t 2 [] u I!,⟨E,λk z=>?_⟩,j.step hs<|λe=>by rcases e with e|e<;>simp at e⟩,hs.mono λu hu=>?_⟩
 .rcases A k z with e|e
  .have:=g.2 k e;exact bbn
  .exact⟨e.2,F! B!⟩
 .rcases hu with rfl|rfl
  .exact .inr (.inr (.inr<|aq.self _))
  .exact .inr (.inr (.inr<|aq.app [3] [0]))
theorem bQ.ahP(ho:Only (λk=>k=pb\/vb.ownBlock=C! k) w w1)(q:aO w1 pb 76 #[ptr a,ptr b,ptr sb,A! m.time,A! m.random,va,v])(E:jd fB w1 v cs)
 (A:∀k,v.ownBlock=C! k->vb.ownBlock=C! k\/(w.heap.size<=k/\k<w1.heap.size)):bL G w pb a b sb va v {m with cH:=cs} w1:=by
 have hs:Step (λu=>u=[3]\/u=[3,1]) G w (λk=>if k<w.heap.size then G k else[3,1]) w1:=Step.rule ho (λk _ e=>e.imp (λe=>Ψ)<|λe=>(h.tb.2 k e).2) _
 have t:∀c s u,c≠3->aq (c::s) u->¬(λu=>u=[3]\/u=[3,1]) u:=λc s u O hu e=>by
  exact nc1
 obtain⟨o,i,⟨x,n,r⟩,⟨y,l,d⟩,f,g,j⟩:=h;refine⟨_,⟨q,(hs.old _ o.lt).trans i,⟨x,n.step hs λu=>t 0 [] u I!,r⟩,⟨y,l.step hs λu=>t 1 [] u I!,d⟩,f.step hs λu=>t 2 [] u I!,g.step hs (λe=>by rcases e with e|e<;>simp at e),⟨E,λk z=>?_⟩⟩,hs.mono λu hu=>?_⟩
 .rcases A k z with e|e
  .have:=j.2 k e;exact bbn
  .exact⟨e.2,F! B!⟩
 .rcases hu with rfl|rfl
  .exact .inr (.inr (.inr<|aq.self _))
  .exact .inr (.inr (.inr<|aq.app [3] [1]))
end
section
variable{ab:Nat}
theorem kS(h:bQ w G pb a b sb va vb m)(n:Env w G ml)(t:Array I?):bQ (w.alloc (.cells t 34)) (grow G w.heap.size free) pb a b sb va vb m/\Env (w.alloc (.cells t 34)) (grow G w.heap.size free) ml/\Step iK G w (grow G w.heap.size free) (w.alloc (.cells t 34))/\aO (w.alloc (.cells t 34)) w.heap.size 34 t/\grow G w.heap.size free w.heap.size=free:=by
 have i:K! w<|w.alloc (.cells t 34):=R!;have o:=Step.below (T:=λ_=>False) (G:=G) i;exact⟨h.step o (λ_ _ e=>e),n.step o (λe=>e),o.mono λ_ e=>e.elim,aO.new _ _ _,fE _ free O?⟩
section
variable(p n:Int)(d:ByteArray)(h:bQ w G pb a b sb va vb m)(he:Env w G ml)
include p n d h he
theorem ab1(A:cO N m)(O: -9223372036854775808<=n)(I:n<=9223372036854775807)(j:n<=4096->0<=n->N+1200000*n.toNat<=40000000000):
 G! E? 35 #[ptr pb,.agg #[A! 0,A! p,A! n,D? d]] w λe L=>e=.returned (A!<|if n<1\/4096<n\/1073741824<m.time+n then 2700 else 0)/\bL G w pb a b sb va vb (if n<1\/4096<n\/1073741824<m.time+n then m else bV n.toNat m) L:=by
 obtain⟨S,E,g,l,-⟩:=kS h he #[A! 0,A! p,A! n,D? d];have u:=A?<|Jq n S E A O I j;let⟨W,z⟩:=F?<|w.alloc (.cells #[A! 0,A! p,A! n,D? d] 34);let⟨Q,D⟩:=F? w.heap.size;rw[z]at l u g;rw[D]at l;have C:=l.k 0;have F:=l.k 2;obtain⟨f,y⟩:∃f:Int,(if n<1\/4096<n\/1073741824<m.time+n then 2700 else 0)=f:=⟨_,rfl⟩;let⟨M,k⟩:=F?<|if n<1\/4096<n\/1073741824<m.time+n then m else bV n.toNat m
 rw[y,k]at u|-;unfold ptr at*
 go_in
 go_wp2_with(go_at_call 53;apply u.mono;rintro e w2 ⟨rfl,G2,R,H⟩);have HF:=A? (⟨G2,R,g.trans H⟩:bL G w pb a b sb va vb M w2);exact bas
theorem adX:
 G! E? 35 #[ptr pb,.agg #[A! 8,A! p,A! n,D? d]] w λe O=>e=.returned (A! (jD m.b n).2)/\bL G w pb a b sb va vb {m with a:=(jD m.a n).1,b:=(jD m.b n).1} O:=by
 obtain⟨z,S,g,l,-⟩:=kS h he #[A! 8,A! p,A! n,D? d];have u:=A?<|MN n z;let⟨W,j⟩:=F?<|w.alloc (.cells #[A! 8,A! p,A! n,D? d] 34);let⟨Q,I⟩:=F? w.heap.size;rw[j]at l u g;rw[I]at l;have R:=l.k 0;have H:=l.k 2;obtain⟨f,y⟩:∃f:Int,(jD m.b n).2=f:=⟨_,rfl⟩;let⟨M,k⟩:=F? ({m with a:=(jD m.a n).1,b:=(jD m.b n).1}:fD);rw[y,k]at u|-;unfold ptr at*
 go_in
 go_wp2_with(go_at_call 61;apply u.mono;rintro e w2 ⟨rfl,G2,E,A⟩);have HF:=A? (⟨G2,E,g.trans A⟩:bL G w pb a b sb va vb M w2);exact bas
end
end
