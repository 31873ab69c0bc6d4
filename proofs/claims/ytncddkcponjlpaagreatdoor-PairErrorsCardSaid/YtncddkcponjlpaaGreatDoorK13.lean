/- Walks and plain laws. -/
import Derived.Test.YtncddkcponjlpaaGreatDoorK09
set_option linter.unusedVariables false
set_option linter.unusedSimpArgs false
set_option maxHeartbeats 0
set_option maxRecDepth 99999
namespace Go.Proofs.YtncddkcponjlpaaGreatDoor
open Go.RowKit Go.Proofs.Tryz
open Go renaming World→D!,Value→I?,Calls→G!,IntKind→ncy
open Go.RowKit renaming Hid→E!
open Decidable renaming decide→K?
open Option renaming some→C!,none→L?
open Bool renaming true→C?,false→H!
open Go.Proofs.Tryz renaming prog→E?
variable{P:Prop}
theorem mF(w:D!)(a o:Obj):((w.alloc a).alloc o).drew.heap[w.heap.size+1]? =C! o:=by
 show((w.alloc a).alloc o).heap[w.heap.size+1]? =_;simpa using c! (w.alloc a) o
def oC(l:aZ)(o:bD)(w:D!)(e:Ending)(t:D!):Prop:=
 ∃(k:Int) (d:ByteArray),e=.returned (.tuple #[.agg #[A! k,D? d],H? (eT l o).isSome])/\(∀b,eT l o=C! b->b=(k,d))/\K! w t
theorem vB{w:D!}{B:Nat}{x y:I?}{T:TypeId}(e:w.heap[B]? =C! (.cells #[x,y] T (0,0)))(u v:I?):
 ((w.setCell (B? B 0) u).setCell (B? B 1) v).cell? (B? B 0)=C! u/\((w.setCell (B? B 0) u).setCell (B? B 1) v).cell? (B? B 1)=C! v:=by
 constructor<;>simp[World.cell?,World.setCell,ba8,e]
theorem Dr(m:Int)(t:0<=m)(o:m<=4294967295):0<=max 1 (bits .xor .i64 m 4294967295)/\max 1 (bits .xor .i64 m 4294967295)<=4294967295:=by
 obtain⟨n,rfl⟩:∃n:Nat,m=n:=⟨m.toNat,B!⟩;have e:bits .xor .i64 (n:Int) 4294967295=((n^^^4294967295:Nat):Int):=M8 n 4294967295 B! I!;have i:n^^^4294967295<2^32:=bai B! I!;rw[e];omega
section
variable(p:Nat)(l:aZ)(d:ByteArray)(w:D!)
include p l d w
theorem ND(b:d.size<=9223372036854775807):
 G! E? 287 #[P? p,.agg #[A! 1,D? d]] w (oC l (1,d) w):=by
 have r:=λw=>oP d w b;let⟨v,s⟩:=F?<|cF d.data.toList;rw[s]at r;have n:E!<|eT l (1,d)=if gZ v then L? else C! (1,bytesOf<|lv 1500 2):=A? (by unfold eT;rw[G? N!,s])
 have y:=λw=>zJ v w;have hn:=λw=>qt 1500 2 w I! I! (.inl rfl);generalize bytesOf (lv 1500 2)=N at hn n;have m:(w.alloc (.cells #[A! 1,D? d] 203)).cell? (B? w.heap.size 0)=N? 1:=ϖ;have i:=af ((P! _ _).alloc O? (.cells xaq 203)) m;go_in;go_wp2_with fail;apply(r _).mono;rintro e u ⟨rfl,rfl⟩;go_wp2;refine dW (λu=>J? u w.heap.size 0 1) (zca [0,2,8,5,6,11,12,15,16]) i ?_;refine R? ?_;intro K o;go_wp2_with(go_at_call 279;refine M! (hn _) λz t=>?_);apply O! o (af t i);refine R? ?_;intro K o;go_wp2_with(go_at_call 259;refine d! (y _) ?_);apply O! o (af t i);refine tK ?_;have g:=bb t<|mF _ _ _;let⟨j,q⟩:=iP t;let⟨k0,k1⟩:=vB g (A! 1)<|D? N;refine ai λK o=>?_;go_wp2_with fail;refine O! o ((iY _ _ _ _ N!).trans<|(iY _ _ _ _ N!).trans<|af t i) ?_;refine T? ?_;go_wp2;refine V? (v:=.tuple #[.agg #[A! 1,D? N],H?<|!gZ v]) mbR rfl ⟨1,N,?_,?_,?_⟩
 .rw[n.out];cases gZ v<;>rfl
 .rw[n.out];cases gZ v<;>simp
 .exact(((seqB (aQ<|ak R! _) t).setCell (p:=B? (w.heap.size+1) 0) (ϗ _) _).setCell (p:=B? (w.heap.size+1) 1) (ϗ _) _)
theorem K8(b:d.size<=9223372036854775807):
 G! E? 287 #[P? p,.agg #[A! 17,D? d]] w (oC l (17,d) w):=by
 have r:=λw=>oP d w b;let⟨v,s⟩:=F?<|cF d.data.toList;rw[s]at r;have n:E!<|eT l (17,d)=if gZ v then L? else C! (17,bytesOf<|lv 1500 2):=A? (by unfold eT;rw[G? N!,s])
 have y:=λw=>zJ v w;have hn:=λw=>qt 1500 2 w I! I! (.inl rfl);generalize bytesOf (lv 1500 2)=N at hn n;have m:(w.alloc (.cells #[A! 17,D? d] 203)).cell? (B? w.heap.size 0)=N? 17:=ϖ;have i:=af ((P! _ _).alloc O? (.cells xaq 203)) m;go_in;go_wp2_with fail;apply(r _).mono;rintro e u ⟨rfl,rfl⟩;go_wp2;refine dW (λu=>J? u w.heap.size 0 17) (zca [0,2,8,5,6,11,12,15,16]) i ?_;refine R? ?_;intro K o;go_wp2_with(go_at_call 279;refine M! (hn _) λz t=>?_);apply O! o (af t i);refine R? ?_;intro K o;go_wp2_with(go_at_call 259;refine d! (y _) ?_);apply O! o (af t i);refine tK ?_;have g:=bb t<|mF _ _ _;let⟨j,q⟩:=iP t;let⟨k0,k1⟩:=vB g (A! 17)<|D? N;refine ai λK o=>?_;go_wp2_with fail;refine O! o ((iY _ _ _ _ N!).trans<|(iY _ _ _ _ N!).trans<|af t i) ?_;refine T? ?_;go_wp2;refine V? (v:=.tuple #[.agg #[A! 17,D? N],H?<|!gZ v]) mbR rfl ⟨17,N,?_,?_,?_⟩
 .rw[n.out];cases gZ v<;>rfl
 .rw[n.out];cases gZ v<;>simp
 .exact(((seqB (aQ<|ak R! _) t).setCell (p:=B? (w.heap.size+1) 0) (ϗ _) _).setCell (p:=B? (w.heap.size+1) 1) (ϗ _) _)
theorem II(h:dM w p l)(f:0<=l.aH)(g:l.aH<=4294967295)(y:d.size<=9223372036854775807)(t:cF d.data.toList=0):
 G! E? 287 #[P? p,.agg #[A! 5,D? d]] w (oC l (5,d) w):=by
 have b:=h.lt;have n:=h.cells.2.1;have s:=λw=>oP d w y;let⟨v,hv⟩:=F?<|cF d.data.toList;rw[hv]at s t;have HB:E!<|eT l (5,d)=if v=0\/v=l.aH then C! (5,bytesOf<|lv (max 1<|bits .xor .i64 l.aH 4294967295) 4)else none:=A? mdW
 have i:=Dr l.aH f g;have hn:=λw=>qt (max 1<|bits .xor .i64 l.aH 4294967295) 4 w i.1 i.2 (.inr rfl);generalize bytesOf (lv (max 1<|bits .xor .i64 l.aH 4294967295) 4)=N at hn HB;let⟨m,hm⟩:=F? l.aH;rw[hm]at n hn HB
 try rw[hm]at t
 have r:(w.alloc (.cells #[A! 5,D? d] 203)).cell? (B? w.heap.size 0)=N? 5:=ϖ;have u:=af ((P! w.heap.size w).alloc O? (.cells #[A! 5,D? d] 203)) n;have e2:=af ((P! _ _).alloc O? (.cells xaq 203)) r;have e3:=af ((P! _ _).alloc O? (.cells xaq 203)) u;subst t;go_in;go_wp2_with fail;apply(s _).mono;rintro e o ⟨rfl,rfl⟩;go_wp2;refine dW (λo=>J? o w.heap.size 0 5/\J? o p 1 m) (zca [0,2,4,6,8,10,12,14,16,22,24,19,20,26,28,30,32,34,36,38,40,42,45,46]) ⟨e2,e3⟩ ?_;exact nbo
theorem IJ(h:dM w p l)(f:0<=l.aH)(g:l.aH<=4294967295)(b:d.size<=9223372036854775807)(t:cF d.data.toList≠0/\cF d.data.toList=l.aH):
 G! E? 287 #[P? p,.agg #[A! 5,D? d]] w (oC l (5,d) w):=by
 have j:=h.lt;have n:=h.cells.2.1;have s:=λw=>oP d w b;let⟨v,hv⟩:=F?<|cF d.data.toList;rw[hv]at s t;have HB:E!<|eT l (5,d)=if v=0\/v=l.aH then C! (5,bytesOf<|lv (max 1<|bits .xor .i64 l.aH 4294967295) 4)else none:=A? mdW
 have i:=Dr l.aH f g;have hn:=λw=>qt (max 1<|bits .xor .i64 l.aH 4294967295) 4 w i.1 i.2 (.inr rfl);generalize bytesOf (lv (max 1<|bits .xor .i64 l.aH 4294967295) 4)=N at hn HB;let⟨m,hm⟩:=F? l.aH;rw[hm]at n hn HB
 try rw[hm]at t
 have r:(w.alloc (.cells #[A! 5,D? d] 203)).cell? (B? w.heap.size 0)=N? 5:=ϖ;have u:=af ((P! w.heap.size w).alloc O? (.cells #[A! 5,D? d] 203)) n;have e2:=af ((P! _ _).alloc O? (.cells xaq 203)) r;have e3:=af ((P! _ _).alloc O? (.cells xaq 203)) u;obtain⟨y,rfl⟩:=t;have q:=Q?.2 y;go_in;go_wp2_with fail;apply(s _).mono;rintro e o ⟨rfl,rfl⟩;go_wp2;refine dW (λo=>J? o w.heap.size 0 5/\J? o p 1 v) (zca [0,2,4,6,8,10,12,14,16,22,24,19,20,26,28,30,32,34,36,38,40,42,45,46]) ⟨e2,e3⟩ ?_;exact nbo
theorem IK(h:dM w p l)(I:0<=l.aH)(R:l.aH<=4294967295)(L:d.size<=9223372036854775807)(n:cF d.data.toList≠0/\cF d.data.toList≠l.aH):
 G! E? 287 #[P? p,.agg #[A! 5,D? d]] w (oC l (5,d) w):=by
 have M:=h.lt;have j:=h.cells.2.1;have z:=λw=>oP d w L;let⟨v,hv⟩:=F?<|cF d.data.toList;rw[hv]at z n;have o:E!<|eT l (5,d)=if v=0\/v=l.aH then C! (5,bytesOf<|lv (max 1<|bits .xor .i64 l.aH 4294967295) 4)else none:=A? mdW
 have b:=Dr l.aH I R;have hn:=λw=>qt (max 1<|bits .xor .i64 l.aH 4294967295) 4 w b.1 b.2 (.inr rfl);generalize bytesOf (lv (max 1<|bits .xor .i64 l.aH 4294967295) 4)=N at hn o;let⟨m,hm⟩:=F? l.aH;rw[hm]at j hn o
 try rw[hm]at n
 have A:(w.alloc (.cells #[A! 5,D? d] 203)).cell? (B? w.heap.size 0)=N? 5:=ϖ;have O:=af ((P! w.heap.size w).alloc O? (.cells #[A! 5,D? d] 203)) j;have u:=af ((P! _ _).alloc O? (.cells xaq 203)) A;have f:=af ((P! _ _).alloc O? (.cells xaq 203)) O;obtain⟨q,E⟩:=n;have F:=Q?.2 q;have G:=Q?.2 E;have r:E!<|¬(v=0\/v=m):=A? λh=>h.elim q E;go_in;go_wp2_with fail;apply(z _).mono;rintro e s ⟨rfl,rfl⟩;go_wp2;refine dW (λs=>J? s w.heap.size 0 5/\J? s p 1 m) (zca [0,2,4,6,8,10,12,14,16,22,24,19,20,26,28,30,32,34,36,38,40,42,45,46]) ⟨u,f⟩ ?_;refine R? ?_;intro K i;go_wp2_with(go_at_call 279;refine M! (hn _) λW t=>?_);have g:=af t u;have y:=af t f;refine O! i ⟨g,y⟩ ?_;refine tK ?_;have H:=bb t<|mF _ _ _;let⟨D,C⟩:=iP t;let⟨k0,k1⟩:=vB H (A! 5)<|D? N;refine ai λK i=>?_;go_wp2_with fail;refine O! i ⟨(iY _ _ _ _ N!).trans<|(iY _ _ _ _ N!).trans g,(iY _ _ _ _ p!).trans<|(iY _ _ _ _ p!).trans y⟩ ?_;refine T? ?_;go_wp2;refine V? (v:=.tuple #[.agg #[A! 5,D? N],H? H!]) mbR rfl ⟨5,N,?_,?_,?_⟩
 .rw[o.out,F! r.out];rfl
 .rw[o.out,F! r.out];simp
 .exact(((seqB (aQ<|ak R! _) t).setCell (p:=B? (w.heap.size+1) 0) (ϗ _) _).setCell (p:=B? (w.heap.size+1) 1) (ϗ _) _)
end
theorem K9(p:Nat)(l:aZ)(k:Int)(d:ByteArray)(w:D!)(t:k≠1/\k≠17/\k≠5)(s:d.size<=9223372036854775807):
 G! E? 287 #[P? p,.agg #[A! k,D? d]] w (oC l (k,d) w):=by
 have n:=λw=>oP d w s;have o:E!<|eT l (k,d)=none:=A? (by unfold eT;rw[F! B!,F! B!]);have r:=Q?.2 t.1;have c:=Q?.2 t.2.1;have u:=Q?.2 t.2.2;go_in;go_wp2_with fail;refine d! (n _) ?_;go_wp2;refine V? (v:=.tuple #[.agg #[A! k,D? d],H? H!]) (by simp[results,results287,go_sem]) rfl ⟨k,d,?_,?_,?_⟩
 .rw[o.out];rfl
 .rw[o.out];intro b i;cases i
 .exact ak R! _
theorem Q5(p:Nat)(l:aZ)(o:bD)(w:D!)(h:dM w p l)(t:0<=l.aH)(i:l.aH<=4294967295)(e:o.2.size<=9223372036854775807):
 G! E? 287 #[P? p,.agg #[A! o.1,D? o.2]] w (oC l o w):=by
 obtain⟨k,d⟩:=o;by_cases s:k=1
 .subst s;exact ND p l d w e
 .by_cases r:k=17
  .subst r;exact K8 p l d w e
  .by_cases c:k=5
   .subst c;by_cases n:cF d.data.toList=0
    .exact II p l d w h t i e n
    .by_cases u:cF d.data.toList=l.aH
     .exact IJ p l d w h t i e ⟨n,u⟩
     .exact IK p l d w h t i e ⟨n,u⟩
   .exact K9 p l k d w ⟨s,r,c⟩ e
def nS(r:bF×Int):Value:=.tuple #[.agg (dc r.1).toArray,A! r.2]
theorem GJ:∀n<256,(bits BinOp.and IntKind.i64 ((n:Nat):Int) 63 !=0)=K? (n&&&63≠0)/\(bits BinOp.and IntKind.i64 ((n:Nat):Int) 48 !=0)=K? (n&&&48≠0)/\(bits BinOp.and IntKind.u8 ((n:Nat):Int) 128 !=0)=K? (128<=n)/\
 (bits BinOp.and IntKind.u8 ((n:Nat):Int) 64 !=0)=K? (64<=n%128)/\bits BinOp.andNot IntKind.u8 ((n:Nat):Int) 192=((n%64:Nat):Int):=baS
theorem pM(l:List UInt8)(a b:Nat):(bytesOf l).extract a b=bytesOf ((l.take b).drop a):=by
 apply QF;rw[extract_toList];show(l.drop a).take (b-a)=(l.take b).drop a;rw[List.drop_take]
theorem za(l:List UInt8)(a n:Nat)(h:n=l.length):(bytesOf l).extract a n=bytesOf (l.drop a):=by
 rw[pM,u? B!]
theorem Fc(n:Nat)(c:UInt8)(e:n<4294967296):bits BinOp.or IntKind.i64 ((n:Int)*256) (c.toNat:Int)=((n*256+c.toNat:Nat):Int):=by
 have t:=c.toNat_lt;have:=A6 (n*256) c.toNat B! B!;rw[nat_join 8 (n*256) c.toNat B! B!]at this;simpa using this
theorem WA(l:List UInt8)(s:Bool)(w:D!)(h:l.length<Bc s):G! E? 161 #[D?<|bytesOf l,H? s] w (S? w<|nS<|oM l s):=by
 have HM:E!<|oM l s=(eZ,800):=A? (by unfold oM;rw[G? (.inl h)]);have o:=aA l;cases s
 .have e:l.length<4:=h;have t:K? ((l.length:Int)<4)=true:=b! B!;exact nbc
 .have e:l.length<2:=h;have t:K? ((l.length:Int)<2)=true:=b! B!;exact nbc
theorem WC(t o n s:UInt8)(r:List UInt8)(w:D!)(a3:r.length<=4611686018427387904):G! E? 161 #[D?<|bytesOf (t::o::n::s::r),H? H!] w (S? w<|nS<|oM (t::o::n::s::r) H!):=by
 have a4:(bytesOf (t::o::n::s::r)).size=r.length+4:=bam;have X:∀h,(bytesOf (t::o::n::s::r))[0]'h=t:=λ_=>rfl;have J:∀h,(bytesOf (t::o::n::s::r))[1]'h=o:=λ_=>rfl;have Q:∀h,(bytesOf (t::o::n::s::r))[2]'h=n:=λ_=>rfl;have Z:∀h,(bytesOf (t::o::n::s::r))[3]'h=s:=λ_=>rfl;have q:=t.toNat_lt;have W:=o.toNat_lt;have Y:=n.toNat_lt;have V:=s.toNat_lt;obtain⟨j,a5,L,D,C⟩:=GJ t.toNat q;have a0:K? ((r.length:Int)+4<4)=false:=W? B!
 have HM:E! (oM (t::o::n::s::r) H!=if t.toNat&&&63≠0 then(eZ,800)else if 2048<r.length then(eZ,801)else(⟨K? (128<=t.toNat),decide (64<=t.toNat%128),(((t.toNat%64*256+o.toNat)*256+n.toNat)*256+s.toNat:Nat),bytesOf r⟩,0)):=A? (by
  unfold oM Bc K3 YV ko;simp only[η,q?,V!,baP,bbq,baF,ba2,na6];by_cases h1:t.toNat&&&63=0
  .have f:¬(r.length+1+1+1+1<4\/t.toNat&&&63≠0):=by rintro(e|e);omega;exact e h1
   have l:¬(t.toNat&&&63≠0):=λe=>e h1;rw[F! f,F! l];by_cases h2:2048<r.length
   .have g:2048<r.length+1+1+1+1-4:=B!;rw[G? h2,G? g]
   .have g:¬2048<r.length+1+1+1+1-4:=B!;rw[F! h2,F! g];congr 2;omega
  .have f:(r.length+1+1+1+1<4\/t.toNat&&&63≠0):=.inr h1;have l:t.toNat&&&63≠0:=h1;rw[G? f,G? l])
 by_cases h1:t.toNat&&&63=0
 .rw[show K? (t.toNat&&&63≠0)=H! from W? mcv]at j;by_cases h2:2048<r.length
  .have HM2:E!<|oM (t::o::n::s::r) H!=(eZ,801):=A? naE;exact ncU
  .have HM2:=A? (HM.trans<|by rw[F! mcv,F! h2]);have hd3:K? ((2048:Int)<(r.length:Int))=false:=W? B!;obtain⟨B,z⟩:=F?<|K? (128<=t.toNat);obtain⟨E,A⟩:=F?<|K? (64<=t.toNat%128);rw[z]at L HM2;rw[A]at D HM2;have O:=za (t::o::n::s::r) 4 (r.length+4) rfl;simp only[baF,ba2]at O;have b:=Fc (t.toNat%64) o B!;have y:=Fc (t.toNat%64*256+o.toNat) n B!;have u:=Fc ((t.toNat%64*256+o.toNat)*256+n.toNat) s B!;obtain⟨m,I⟩:=F?<|t.toNat%64;rw[I]at C b y u HM2;obtain⟨x1,N⟩:=F?<|m*256+o.toNat;rw[N]at b y u HM2;obtain⟨d,S⟩:=F?<|x1*256+n.toNat;rw[S]at y u HM2;obtain⟨c,R⟩:=F?<|d*256+s.toNat;rw[R]at u HM2;have M:m<64:=B!;have F:x1<16384:=B!;have G:d<4194304:=B!;go_wp2;go_region;go_wp2;go_loopw[9] (λi wr=>∃(k x:Nat),1<=k/\k<=4/\i=A! k/\wr.heap[w.heap.size+1]? =C! (.cells #[H? B,H? E,A! x,D?<|bytesOf r] 228 (0,0))/\wr.heap[w.heap.size]? =C! (.cells xaa 228 (0,0))/\K! w wr/\((k=1/\x=m)\/(k=2/\x=x1)\/(k=3/\x=d)\/(k=4/\x=c))) (λi _=>4-(intOf i).toNat)
   case atStart=>exact⟨1,m,B!,B!,rfl,mF _ _ _,(baf (w.alloc _) _ w.heap.size N!).trans<|c! w _,aQ<|ak R! _,.inl ⟨rfl,rfl⟩⟩
   case round=>
    obtain⟨k,x,a1,a2,rfl,hb,ha,hbl,H⟩:=hrel;rcases H with⟨rfl,e⟩|⟨rfl,e⟩|⟨rfl,e⟩|⟨rfl,e⟩<;>rw[e]at hb<;>clear e
    .have l:wr.cell? (B? (w.heap.size+1) 2)=N? (m:Nat):=ϩ;exact nc4
    .have l:wr.cell? (B? (w.heap.size+1) 2)=N? (x1:Nat):=ϩ;have g2':wr.frozen? (B? (w.heap.size+1) 2)=false:=by simp[World.frozen?,hb]
     have hn:=ba4 wr (w.heap.size+1) 2 _ _ (A! (d:Nat)) hb;have ha':=(ay wr (w.heap.size+1) 2<|A! (d:Nat)).heap ha B!;have hb2:K! w (wr.setCell (B? (w.heap.size+1) 2)<|A! (d:Nat)).drew:=(hbl.setCell (ϗ _) _).drew;go_wp2;go_region;go_wp2;go_roundw
     case rel=>exact⟨2+1,_,B!,B!,W!,hn,ha',hb2,B!⟩
     case measure=>simp[intOf]
    .have l:wr.cell? (B? (w.heap.size+1) 2)=N? (d:Nat):=ϩ;have g2':wr.frozen? (B? (w.heap.size+1) 2)=false:=by simp[World.frozen?,hb]
     have hn:=ba4 wr (w.heap.size+1) 2 _ _ (A! (c:Nat)) hb;have ha':=(ay wr (w.heap.size+1) 2<|A! (c:Nat)).heap ha B!;have hb2:K! w (wr.setCell (B? (w.heap.size+1) 2)<|A! (c:Nat)).drew:=(hbl.setCell (ϗ _) _).drew;go_wp2;go_region;go_wp2;go_roundw
     case rel=>exact⟨3+1,_,B!,B!,W!,hn,ha',hb2,B!⟩
     case measure=>simp[intOf]
    .clear b y u;have K:wr.cell? (B? (w.heap.size+1) 0)=C! (H? B):=ϩ;have f:wr.cell? (B? (w.heap.size+1) 1)=C! (H? E):=ϩ;have l:wr.cell? (B? (w.heap.size+1) 2)=N? c:=ϩ;have g:wr.cell? (B? (w.heap.size+1) 3)=C! (D?<|bytesOf r):=ϩ;have k0:wr.cell? (B? w.heap.size 0)=C! (H? H!):=baq;have k1:wr.cell? (B? w.heap.size 1)=C! (H? H!):=baq;have k2:wr.cell? (B? w.heap.size 2)=N? 0:=baq;have k3:wr.cell? (B? w.heap.size 3)=C! (D? ⟨#[]⟩):=baq;have a6:∀i,wr.frozen? (B? w.heap.size i)=false:=λi=>by simp[World.frozen?,ha]
     go_wp2
     refine V? (v:=nS (⟨B,E,c,bytesOf r⟩,0)) nar rfl ⟨by rw[HM2.out],?_⟩;exact nbK
 .rw[show K? (t.toNat&&&63≠0)=C? from b! h1]at j;have HM2:E!<|oM (t::o::n::s::r) H!=(eZ,800):=A? (by rw[HM.out,G? h1]);exact nbr
theorem RW(t o:UInt8)(r:List UInt8)(w:D!)(M:r.length<=4611686018427387904):G! E? 161 #[D?<|bytesOf (t::o::r),H? C?] w (S? w<|nS<|oM (t::o::r) C?):=by
 have F:(bytesOf (t::o::r)).size=r.length+2:=bam;have R:∀h,(bytesOf (t::o::r))[0]'h=t:=λ_=>rfl;have H:∀h,(bytesOf (t::o::r))[1]'h=o:=λ_=>rfl;have m:=t.toNat_lt;have N:=o.toNat_lt;obtain⟨G,u,z,A,O⟩:=GJ t.toNat m;have L:K? ((r.length:Int)+2<2)=false:=W? B!
 have HM:E! (oM (t::o::r) C?=if t.toNat&&&48≠0 then(eZ,800)else if 2048<r.length then(eZ,801)else(⟨K? (128<=t.toNat),decide (64<=t.toNat%128),(t.toNat%64*256+o.toNat:Nat),bytesOf r⟩,0)):=A? (by
  unfold oM Bc K3 YV ko;simp only[t!,V!,baP,bbq,baF,ba2,na6];by_cases h1:t.toNat&&&48=0
  .have l:¬(r.length+1+1<2\/t.toNat&&&48≠0):=by rintro(e|e);omega;exact e h1
   have n:¬(t.toNat&&&48≠0):=λe=>e h1;rw[F! l,F! n];by_cases h2:2048<r.length
   .have d:2048<r.length+1+1-2:=B!;rw[G? h2,G? d]
   .have d:¬2048<r.length+1+1-2:=B!;rw[F! h2,F! d];rfl
  .have l:(r.length+1+1<2\/t.toNat&&&48≠0):=.inr h1;have n:t.toNat&&&48≠0:=h1;rw[G? l,G? n])
 by_cases h1:t.toNat&&&48=0
 .rw[show K? (t.toNat&&&48≠0)=H! from W? mcv]at u;by_cases h2:2048<r.length
  .have HM2:E!<|oM (t::o::r) C?=(eZ,801):=A? naE;exact ncU
  .have HM2:=A? (HM.trans<|by rw[F! mcv,F! h2]);have hd3:K? ((2048:Int)<(r.length:Int))=false:=W? B!;obtain⟨B,f⟩:=F?<|K? (128<=t.toNat);obtain⟨E,g⟩:=F?<|K? (64<=t.toNat%128);rw[f]at z HM2;rw[g]at A HM2;have y:=za (t::o::r) 2 (r.length+2) rfl;simp only[baF,ba2]at y;have c:=Fc (t.toNat%64) o B!;obtain⟨s,b⟩:=F?<|t.toNat%64;rw[b]at O c HM2;obtain⟨x1,j⟩:=F?<|s*256+o.toNat;rw[j]at c HM2;have I:s<64:=B!;go_wp2;go_region;go_wp2;go_loopw[9] (λi wr=>∃(k x:Nat),1<=k/\k<=2/\i=A! k/\wr.heap[w.heap.size+1]? =C! (.cells #[H? B,H? E,A! x,D?<|bytesOf r] 228 (0,0))/\wr.heap[w.heap.size]? =C! (.cells xaa 228 (0,0))/\K! w wr/\((k=1/\x=s)\/(k=2/\x=x1))) (λi _=>2-(intOf i).toNat)
   case atStart=>exact⟨1,s,B!,B!,rfl,mF _ _ _,(baf (w.alloc _) _ w.heap.size N!).trans<|c! w _,aQ<|ak R! _,.inl ⟨rfl,rfl⟩⟩
   case round=>
    obtain⟨k,x,D,C,rfl,hb,ha,hbl,q⟩:=hrel;rcases q with⟨rfl,e⟩|⟨rfl,e⟩<;>rw[e]at hb<;>clear e
    .have n:wr.cell? (B? (w.heap.size+1) 2)=N? (s:Nat):=ϩ;exact nc4
    .clear c;have S:wr.cell? (B? (w.heap.size+1) 0)=C! (H? B):=ϩ;have l:wr.cell? (B? (w.heap.size+1) 1)=C! (H? E):=ϩ;have n:wr.cell? (B? (w.heap.size+1) 2)=N? x1:=ϩ;have d:wr.cell? (B? (w.heap.size+1) 3)=C! (D?<|bytesOf r):=ϩ;have k0:wr.cell? (B? w.heap.size 0)=C! (H? H!):=baq;have k1:wr.cell? (B? w.heap.size 1)=C! (H? H!):=baq;have k2:wr.cell? (B? w.heap.size 2)=N? 0:=baq;have k3:wr.cell? (B? w.heap.size 3)=C! (D? ⟨#[]⟩):=baq;have W:∀i,wr.frozen? (B? w.heap.size i)=false:=λi=>by simp[World.frozen?,ha]
     go_wp2
     refine V? (v:=nS (⟨B,E,x1,bytesOf r⟩,0)) nar rfl ⟨by rw[HM2.out],?_⟩;exact nbK
 .rw[show K? (t.toNat&&&48≠0)=C? from b! h1]at u;have HM2:E!<|oM (t::o::r) C?=(eZ,800):=A? (by rw[HM.out,G? h1]);exact nbr
theorem ZS(l:List UInt8)(s:Bool)(w:D!)(hl:l.length<=4611686018427387904):G! E? 161 #[D?<|bytesOf l,H? s] w (S? w<|nS<|oM l s):=by
 by_cases h:l.length<Bc s
 .exact WA l s w h
 cases s
 .have e:¬l.length<4:=h
  match l,e,hl with
  |t::o::i::n::r,_,hl=>exact WC t o i n r w maC
  |[],e,_=>simp at e
  |[_],e,_=>simp at e
  |[_,_],e,_=>simp at e
  |[_,_,_],e,_=>simp at e
 .have e:¬l.length<2:=h
  match l,e,hl with
  |t::o::r,_,hl=>exact RW t o r w maC
  |[],e,_=>simp at e
  |[_],e,_=>simp at e
def ic(r:cT×Int):Value:=.tuple #[.agg (aK r.1).toArray,A! r.2]
theorem zb:aK gM=[A! 0,A! 0,D? ⟨#[]⟩,D? ⟨#[]⟩]:=rfl
theorem WE(l:List UInt8)(w:D!)(h:l.length<4):G! E? 159 #[D?<|bytesOf l] w (S? w<|ic<|iG l):=by
 have HM:E!<|iG l=(gM,600):=A? (by unfold iG;rw[G? h]);have t:=aA l;have e:K? ((l.length:Int)<4)=true:=b! B!;go_wp2;exact V? (v:=ic (gM,600)) na0 rfl ⟨ϯ,R!⟩
structure agX(c0 c1 c2 c3:UInt8)(r:List UInt8)(N:Nat):Prop where
 hz:(bytesOf (c0::c1::c2::c3::r)).size=r.length+4
 g0:∀h,(bytesOf (c0::c1::c2::c3::r))[0]'h=c0
 g1:∀h,(bytesOf (c0::c1::c2::c3::r))[1]'h=c1
 g2:∀h,(bytesOf (c0::c1::c2::c3::r))[2]'h=c2
 g3:∀h,(bytesOf (c0::c1::c2::c3::r))[3]'h=c3
 b0:c0.toNat<2^8
 b1:c1.toNat<2^8
 b2:c2.toNat<2^8
 b3:c3.toNat<2^8
 pU:bits BinOp.or IntKind.i64 ((c2.toNat:Int)*256) (c3.toNat:Int)=(N:Int)
 hN:N<=65535
theorem CI(o i e t:UInt8)(r:List UInt8):agX o i e t r<|cB (o::i::e::t::r):=
 ⟨bam,λ_=>rfl,λ_=>rfl,λ_=>rfl,λ_=>rfl,o.toNat_lt,i.toNat_lt,e.toNat_lt,t.toNat_lt,Cc e t,by
   show e.toNat*256+t.toNat<=65535;have:=e.toNat_lt;have:=t.toNat_lt;omega⟩
theorem ZT(e t o i:UInt8)(r:List UInt8)(w:D!)(k:r.length<=4611686018427387904)(h:e.toNat<1\/4<e.toNat\/cB (e::t::o::i::r)<4\/r.length+4<cB (e::t::o::i::r)):
 G! E? 159 #[D?<|bytesOf (e::t::o::i::r)] w (S? w<|ic<|iG (e::t::o::i::r)):=by
 have HM:E! (iG (e::t::o::i::r)=(gM,600)):=A? (by
  unfold iG ko;rw[F! mc5,G?];simp only[baP,V!];omega)
 let⟨j,m,f,g,y,l,d,c,u,s,n⟩:=CI e t o i r;generalize cB (e::t::o::i::r)=N at s n h;have b:K? ((r.length:Int)+4<4)=false:=W? B!;have H:=A? h;go_wp2;go_region;go_wp2;go_region;go_wp2_with fail
 all_goals first
  |exact V? (v:=ic (gM,600)) na0 rfl ⟨ϯ,ϕ⟩
  |(exfalso;have:=H.out;omega)
def lZ(e t o i:UInt8)(r:List UInt8):List UInt8:=((e::t::o::i::r).take<|cB (e::t::o::i::r)).drop 4
theorem DA{c0 c1 c2 c3:UInt8}{r:List UInt8}(e:¬cB (c0::c1::c2::c3::r)<4)(t:¬r.length+4<cB (c0::c1::c2::c3::r)):(lZ c0 c1 c2 c3 r).length+4=cB (c0::c1::c2::c3::r):=by
 unfold lZ;rw[Φ,w!];simp only[V!];omega
theorem CJ{e t o i:UInt8}{r:List UInt8}(h:¬(e.toNat<1\/4<e.toNat\/cB (e::t::o::i::r)<4\/r.length+4<cB (e::t::o::i::r))):
 iG (e::t::o::i::r)=if fR (e.toNat:Int)then
  (if lZ e t o i r=[]\/((lZ e t o i r).getD 0 0).toNat=0\/(lZ e t o i r).length-1<((lZ e t o i r).getD 0 0).toNat then(gM,600)
   else if 253<((lZ e t o i r).drop<|1+((lZ e t o i r).getD 0 0).toNat).length then(gM,601)
   else(⟨(e.toNat:Int),(t.toNat:Int),bytesOf (((lZ e t o i r).take (1+((lZ e t o i r).getD 0 0).toNat)).drop 1),bytesOf ((lZ e t o i r).drop (1+((lZ e t o i r).getD 0 0).toNat))⟩,0))
 else if 253<(lZ e t o i r).length then(gM,601)else(⟨(e.toNat:Int),(t.toNat:Int),⟨#[]⟩,bytesOf<|lZ e t o i r⟩,0):=by
 unfold iG ko;have n:¬(e::t::o::i::r).length<4:=mc5
 have s:¬((((e::t::o::i::r).getD 0 0).toNat:Int)<1\/4<(((e::t::o::i::r).getD 0 0).toNat:Int)\/cB (e::t::o::i::r)<4\/(e::t::o::i::r).length<cB (e::t::o::i::r)):=by
  simp only[baP,V!];omega
 rw[F! n,F! s];rfl
theorem RX(c0 c1 c2 c3:UInt8)(r:List UInt8)(w:D!)(H:r.length<=4611686018427387904)(h:¬(c0.toNat<1\/4<c0.toNat\/cB (c0::c1::c2::c3::r)<4\/r.length+4<cB (c0::c1::c2::c3::r)))(s:fR (c0.toNat:Int)=H!):
 G! E? 159 #[D?<|bytesOf (c0::c1::c2::c3::r)] w (S? w<|ic<|iG (c0::c1::c2::c3::r)):=by
 have HM:=A?<|CJ h;rw[s,F! I!]at HM;let⟨L,b,j,q,z,u,m,g,y,c,l⟩:=CI c0 c1 c2 c3 r;have n:=DA (c0:=c0) (c1:=c1) (c2:=c2) (c3:=c3) (r:=r) B! B!;have o:=pM (c0::c1::c2::c3::r) 4<|cB (c0::c1::c2::c3::r);rw[show List.drop 4 _=lZ c0 c1 c2 c3 r from rfl]at o;generalize cB (c0::c1::c2::c3::r)=N at c l h n o;generalize lZ c0 c1 c2 c3 r=R at n o HM;have D:=aA R;have S:K? ((r.length:Int)+4<4)=false:=W? B!;have E:¬c0.toNat<1:=B!;have A:¬4<c0.toNat:=B!;have O:¬N<4:=B!;have I:¬r.length+4<N:=B!;have t:=λw=>wM (c0.toNat:Int) w;rw[s]at t;by_cases i:253<R.length
 .rw[G? i]at HM;have d:K? ((253:Int)<(R.length:Int))=true:=b! B!;go_wp2;go_region;go_wp2;go_region;go_wp2_with fail;apply(t _).mono;rintro e C ⟨rfl,rfl⟩;go_wp2;exact V? (v:=ic (gM,601)) na0 rfl ⟨ϯ,ϕ⟩
 .rw[F! i]at HM;have d:K? ((253:Int)<(R.length:Int))=false:=W? B!;go_wp2;go_region;go_wp2;go_region;go_wp2_with fail;refine d! (t _) ?_;go_wp2;exact V? (v:=ic (⟨(c0.toNat:Int),(c1.toNat:Int),⟨#[]⟩,bytesOf R⟩,0)) (by simp[results,results159,go_sem,ic,aK]) rfl ⟨ϯ,ϕ⟩
theorem ZU(n:Int)(w:D!):G! E? 286 #[A! n] w (T! w<|H?<|K? (1<=n)&&K? (n<=1500)):=by
 go_in
 go_wp2_with fail
 all_goals
  go_ret;refine⟨?_,rfl⟩;simp;try omega
theorem CM(t:Nat)(o s:Int):∀(n m i:Nat) (l:List UInt8),1<=t->l.length<n->l.length<m->cutFrom t o s n i l=cutFrom t o s m i l
 |0,_,_,_,_,h,_=>B!
 |_+1,0,_,_,_,_,h=>B!
 |n+1,m+1,i,l,d,c,u=>by
  unfold cutFrom;split
  .rfl
  .rename_i r;have:l.length≠0:=λe=>r<|y? e;rw[CM t o s n m (i+1) _ d (by rw[Φ];omega)<|by rw[Φ];omega]
theorem ZV(s:ByteArray)(g t:Nat)(o:Int)(m:Bool)(w:D!)(Y:J? w g 0 t)(hs:1<=t/\t<=1500)(ae:1<=s.size/\s.size<=1500/\s.size<=64*t)(ag:0<=o/\o<gh m):
 G! E? 255 #[D? s,J! (C!<|B? g 0) 1 1,A! o,H? m] w λe y=>∃v,e=.returned (.tuple #[v,A! 0])/\bq Jy y w.heap.size v (yA s t o m)/\K! w y:=by
 have L:=λav w=>ZU av w;have C:=λw=>ru m w;have B:=vG m;have ap:(decide ((1:Int)<=(s.size:Int))&&K? ((s.size:Int)<=1500))=true:=p!;have ar:(decide ((1:Int)<=(t:Int))&&K? ((t:Int)<=1500))=true:=p!;obtain⟨am,an⟩:=hs;obtain⟨ba,bc,bd⟩:=ae;obtain⟨be,al⟩:=ag;have b6:=h! Y;let⟨F,H⟩:=F?<|yA s t o m;have O:E!<|F=cutFrom t (gh m) o (s.size+1) 0 s.data.toList:=A? (by rw[<-H];rfl);rw[H];generalize gh m=R at C B al O;go_in;go_wp2_with fail;apply(C _).mono;rintro e y ⟨rfl,rfl⟩;go_wp2_with fail;apply(L _ _).mono;rintro e y ⟨rfl,rfl⟩;rw[ap];go_wp2;go_loopw[43] (λi wr=>∃k:Nat,k<=1/\i=A! k/\wr=y) (λi _=>1-(intOf i).toNat)
 case atStart=>exact⟨0,B!,rfl,rfl⟩
 case round=>
  obtain⟨k,ad,rfl,rfl⟩:=hrel;rcases(show k=0\/k=1 from B!)with rfl|rfl
  .go_wp2_with fail;refine d! (L _ _) ?_;rw[ar];go_wp2;go_roundw
   case rel=>exact⟨1,B!,W!,by first|rfl|trivial⟩
   case measure=>simp[intOf]
  .go_wp2_with fail;obtain⟨w,rfl⟩:∃w,w=wr:=⟨_,rfl⟩;go_loopw[0,13,14] (λaz v i wr=>∃(k:Nat) (l:List UInt8) (u:List bF),az=D? (bytesOf l)/\i=A! k/\k<=64/\bq Jy wr w.heap.size v u/\K! w wr/\u.length<=k/\l.length<=(64-k)*t/\E! (F=u++cutFrom t R o (l.length+1) k l)) (λ_ _ i _=>64-(intOf i).toNat)
   case atStart=>exact⟨0,s.data.toList,[],by first|rfl|trivial,rfl,B!,bq.nil _ _ _,P! _ _,N!,by rw[show s.data.toList.length=s.size from rfl];omega,O⟩
   case round=>
    obtain⟨k,l,u,rfl,rfl,b5,E,j,b9,z,I⟩:=hrel;have ao:=aA l;cases l with
    |nil=>
     have ax:(bytesOf ([]:List UInt8)).toList=[]:=(dG _).trans rfl;obtain⟨bs,bv,rfl,-,-⟩:=aD.form E.at;have a8:F=u:=by rw[I.out];simp[cutFrom]
     go_wp2
     go_ret2;exact⟨_,rfl,by rw[a8];exact E,j⟩
    |cons n r=>
     have ax:(bytesOf (n::r)).toList=n::r:=(dG _).trans rfl
     have ad:k<64:=by
      by_cases e:k<64
      .exact e
      .rw[show 64-k=0 from B!]at z;simp at z
     have b3:=aw j Y;have b7:(k:Int)%1=0:=Int.emod_one _;have b8:(k:Int).tmod 1=0:=N!;rw[V!]at ao;go_wp2_with fail;obtain⟨N,aa⟩:∃N:Nat,min (t:Int) ((r.length:Int)+1)=(N:Int):=⟨(min (t:Int)<|(r.length:Int)+1).toNat,B!⟩;have ab:1<=N/\N<=r.length+1/\N<=t/\(N=t\/N=r.length+1):=B!;rw[aa];obtain⟨bj,bk,bl,A⟩:=ab;have K:=pM (n::r) 0 N;have b0:=za (n::r) N (r.length+1) rfl;rw[ba2]at K;let⟨V,M⟩:=F?<|(n::r).take N;let⟨D,b⟩:=F?<|(n::r).drop N;rw[M]at K;rw[b]at b0;obtain⟨bf,bi⟩:=B;have am:IntKind.i64.wrap (o+k)=o+k:=mdG;have an:(o+k).tmod R=(o+k)%R:=baB B!;have b2:R≠0:=B!;have bm:(0:Int)<=(N:Int):=B!;have bo:(N:Int)<=(r.length:Int)+1:=B!;have Z:E!<|(u.length+1)*Jy.bytes<=140737488355328:=A? (by show(u.length+1)*32<=_;omega);refine dW (λ_=>True) (zcb [16,2,1]) (trivial) ?_;refine R? ?_;intro a0 q;go_wp2_with fail;apply O! q trivial;obtain⟨X,G⟩:∃X:bF,X=⟨((k:Int)==0),((N:Int)==(r.length:Int)+1),(o+k)%R,bytesOf V⟩:=⟨_,rfl⟩
     have a9:E! (F=(u++[X])++cutFrom t R o (D.length+1) (k+1) D):=A? (by
      have a2:(n::r).take t=V:=by
       rw[<-M];rcases A with e|e
       .rw[e]
       .rw[e,u? p!,u? N!]
      have a3:(n::r).drop t=D:=by
       rw[<-b];rcases A with e|e
       .rw[e]
       .rw[e,mb3 p!,mb3 N!]
      have a4:K? ((n::r).length<=t)=((N:Int)==(r.length:Int)+1):=by
       rw[V!,bbr];simp;omega
      have a5:K? (k=0)=((k:Int)==0):=by rw[bbr];simp
      rw[I.out,G,cutFrom,F! N!,a2,a3,a4,a5,baa];congr 2;have b4:D.length+N=r.length+1:=by rw[<-b,Φ,V!];omega
      exact CM t R o _ _ _ _ B! bab B!)
     have a1:D.length<=(64-(k+1))*t:=by
      have a7:D.length=r.length+1-N:=by rw[<-b,Φ,V!]
      rw[V!]at z;have b1:(64-k)*t=(64-(k+1))*t+t:=by rw[<-Nat.succ_mul];congr 1;omega
      rcases A with e|e
      .omega
      .rw[a7];omega
     have J:=A? a1;subst G;refine ai λa0 q=>?_;go_wp2_with(at_builtin;refine xZ Jy rfl _ _ rfl w _ u ⟨((k:Int)==0),((N:Int)==(r.length:Int)+1),(o+k)%R,bytesOf V⟩ _ (E.below (P! _ _).drew) rfl _ rfl rfl Z (aQ j) I! ?_;intro br bx a6 ac _ _);apply O! q trivial;refine T? ?_;go_wp2_with fail;refine⟨?_,?measure⟩
     .iterate 43 apply Exists.intro
      refine⟨?rel,rfl⟩;exact⟨k+1,D,_,rfl,W!,B!,a6,ac,mc7,J,a9⟩
     case measure=>simp[intOf];omega
