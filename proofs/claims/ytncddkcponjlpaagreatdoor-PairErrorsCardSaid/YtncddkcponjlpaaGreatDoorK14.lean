/- Walks and plain laws. -/
import Derived.Test.YtncddkcponjlpaaGreatDoorK11
import Derived.Test.YtncddkcponjlpaaGreatDoorK13
set_option linter.unusedVariables false
set_option linter.unusedSimpArgs false
set_option maxHeartbeats 0
set_option maxRecDepth 99999
namespace Go.Proofs.YtncddkcponjlpaaGreatDoor
open Go.RowKit Go.Proofs.Tryz
open Go renaming World→D!,Value→I?,Calls→G!,IntKind→ncy
open Go.RowKit renaming Hid→E!
open Decidable renaming decide→K?
open Option renaming some→C!,none→L?
open Bool renaming true→C?,false→H!
open Go.Proofs.Tryz renaming prog→E?
variable{P:Prop}
theorem oQ(w:D!)(a o:Obj):((w.alloc a).alloc o).heap[w.heap.size]? =C! a:=
 (baf (w.alloc a) o _ N!).trans (c! w a)
theorem Cn(l:aZ)(t:Int)(e:List bD)(k:Nat)(o:k<e.length):(e.take<|k+1).foldl (cJ t) l=cJ t ((e.take k).foldl (cJ t) l) e[k]:=by
 rw[u! o,ϙ];rfl
theorem eE{w:D!}{B:Nat}{l d c u m f:I?}{T:TypeId}(h:w.heap[B]? =C! (.cells #[l,d,c,u,m,f] T (0,0)))(e t o i n s:I?)(W:D!)
 (r:W=(((((w.setCell (B? B 0) e).setCell (B? B 1) t).setCell (B? B 2) o).setCell (B? B 3) i).setCell (B? B 4) n).setCell (B? B 5) s):
 W.cell? (B? B 0)=C! e/\W.cell? (B? B 1)=C! t/\W.cell? (B? B 2)=C! o/\W.cell? (B? B 3)=C! i/\W.cell? (B? B 4)=C! n/\W.cell? (B? B 5)=C! s:=by
 subst r;refine⟨?_,?_,?_,?_,?_,?_⟩<;>simp[World.cell?,World.setCell,ba8,h]
theorem uG{t w:D!}{B:Nat}(h:K! t w)(e:t.heap.size<=B)(o i n s r l:I?):
 K! t ((((((w.setCell (B? B 0) o).setCell (B? B 1) i).setCell (B? B 2) n).setCell (B? B 3) s).setCell (B? B 4) r).setCell (B? B 5) l):=
 (((((h.setCell (p:=B? B 0) e _).setCell (p:=B? B 1) e _).setCell (p:=B? B 2) e _).setCell (p:=B? B 3) e _).setCell (p:=B? B 4) e _).setCell (p:=B? B 5) e _
theorem jU(l:aZ):aC l= #[A! l.iO,A! l.aH,A! l.cW,H? l.short,D? l.dh,A! l.num]:=rfl
theorem NE(l:aZ)(w:D!)(hm:jL l=C?):
 G! E? 258 #[.agg<|aC l,A! 3,Q!] w (S? w (.tuple #[.agg<|aC<|([]:List bD).foldl (cJ 3) l,A! 0])):=by
 exact nbL
theorem NF(l:aZ)(w:D!)(hm:jL l=C?):
 G! E? 258 #[.agg<|aC l,A! 4,Q!] w (S? w (.tuple #[.agg<|aC<|([]:List bD).foldl (cJ 4) l,A! 0])):=by
 exact nbL
section
variable(l:aZ)(g o c:Nat)(os:List bD)(w:D!)(hm:jL l=C?)(hv:aI w (J! (C! (B? g o)) os.length c) os)
include l g o c os w hm hv
theorem La:
 G! E? 258 #[.agg<|aC l,A! 3,J! (C!<|B? g o) os.length c] w (S? w (.tuple #[.agg<|aC<|os.foldl (cJ 3) l,A! 0])):=by
 have H:=aD.le hv;have D:=aD.lt hv g rfl;have y:=λw=>lE l w;rw[hm]at y;have Ah:=A? jU;rw[Ah.out]at y|-;go_in;go_wp2_with fail;refine M! (y _) λw1 b=>?_;have S:w1.heap[w.heap.size]? =C! (.cells (aC l) 240 (0,0)):=bb b men;have O:w1.heap[w.heap.size+1]? =C! (.cells xaf 240 (0,0)):=bb b mdf;let⟨c0,c1,c2,c3,c4,c5⟩:=oB S;have N:=seqB (ak R! _) b;have L:=(i!.1 O).1;go_wp2_with fail;have r:dM (w1.alloc (.cells (aC l) 363)) w1.heap.size l:=c! _ _;have j:=bb (w':=w1.alloc (.cells (aC l) 363)) ((P! _ _).alloc O? _) O;have t:K! w<|w1.alloc (.cells (aC l) 363):=ak N _;rw[Ah.out]at r j t;generalize w1.alloc (.cells #[A! l.iO,A! l.aH,A! l.cW,H? l.short,D? l.dh,A! l.num] 363)=z at r j t|-;generalize w1.heap.size=p at r L|-;obtain⟨-,-,-,hcell⟩:=(hv.below t).cells;let⟨n,A⟩:=F? os.length;have HN:=A? A;have I:=A? hcell;rw[A]at H|-;go_loopw[28] (λi wr=>∃k:Nat,k<=n/\i=A! k/\dM wr p ((os.take k).foldl (cJ 3) l)/\Only (· =p) z wr) (λi _=>n-(intOf i).toNat)
 case atStart=>exact⟨0,S! _,rfl,r,Only.refl _ _⟩
 case round=>
  obtain⟨k,hk,rfl,d,s⟩:=hrel;by_cases hlt:k<n
  .have E:k<os.length:=Δ;let⟨u,m⟩:=I k E;replace u:=s.cell u<|show¬(g=p) from B!;replace m:=s.cell m<|show¬(g=p) from B!;have hst:=Cn l 3 os k E;generalize os[k]=x at u m hst;generalize (os.take k).foldl (cJ 3) l=acc at d hst;have Ds:=λw=>zK x w;have hO1:Only (· =p) z<|wr.alloc (.cells #[A! x.1,D? x.2] 203):=s.alloc _;have hS1:=d.below<|(P! _ _).alloc O? (.cells #[A! x.1,D? x.2] 203);have hh6:(wr.alloc (.cells #[A! x.1,D? x.2] 203)).heap[wr.heap.size]? =C! (.cells #[A! x.1,D? x.2] 203 (0,0)):=c! _ _;cases hr:gS x with
   |false=>
    rw[hr]at Ds;have HST:E!<|(os.take<|k+1).foldl (cJ 3) l=acc:=A? (by rw[hst];unfold cJ;rw[G? (.inl hr)]);exact naT
   |true=>
    rw[hr]at Ds;let⟨C,M⟩:=wI hr;cases ha:oJ acc x.1 with
    |false=>
     have HST:E!<|(os.take<|k+1).foldl (cJ 3) l=acc:=A? (by rw[hst];unfold cJ;rw[G? (.inr ha)]);exact nb7
    |true=>
     have HST:E!<|(os.take<|k+1).foldl (cJ 3) l=pz acc x:=A? nbS;have lT:=λw h=>yG p acc x.1 w h;have hstep:=λw h=>VH p acc x w h hr;rw[ha]at lT;go_wp2_with fail;refine M! (Ds _) λw3 hb3=>?_;have hS3:=hS1.below hb3;have hO3:=hO1.then hb3;have hh3:=bb hb3 hh6;have t0:w3.cell? (B? wr.heap.size 0)=N? x.1:=mcA;have F:w3.cell? (B? wr.heap.size 1)=C! (D? x.2):=mcA;exact nai
  .obtain rfl:k=n:=B!;have hend:=d;rw[<-HN.out,v!]at hend;have hz2:=s.heap j B!;have yN:=t.trans<|s.below (B:=w.heap.size) t.size<|λk hk=>bcA;let⟨q,hq⟩:=F?<|os.foldl (cJ 3) l;exact ncl
theorem Lb:
 G! E? 258 #[.agg<|aC l,A! 4,J! (C!<|B? g o) os.length c] w (S? w (.tuple #[.agg<|aC<|os.foldl (cJ 4) l,A! 0])):=by
 have L:=aD.le hv;have C:=aD.lt hv g rfl;have y:=λw=>lE l w;rw[hm]at y;have Ah:=A? jU;rw[Ah.out]at y|-;go_in;go_wp2_with fail;refine M! (y _) λw1 b=>?_;have S:w1.heap[w.heap.size]? =C! (.cells (aC l) 240 (0,0)):=bb b men;have O:w1.heap[w.heap.size+1]? =C! (.cells xaf 240 (0,0)):=bb b mdf;let⟨c0,c1,c2,c3,c4,c5⟩:=oB S;have N:=seqB (ak R! _) b;have D:=(i!.1 O).1;go_wp2_with fail;have r:dM (w1.alloc (.cells (aC l) 363)) w1.heap.size l:=c! _ _;have j:=bb (w':=w1.alloc (.cells (aC l) 363)) ((P! _ _).alloc O? _) O;have t:K! w<|w1.alloc (.cells (aC l) 363):=ak N _;rw[Ah.out]at r j t;generalize w1.alloc (.cells #[A! l.iO,A! l.aH,A! l.cW,H? l.short,D? l.dh,A! l.num] 363)=z at r j t|-;generalize w1.heap.size=p at r D|-;obtain⟨-,-,-,hcell⟩:=(hv.below t).cells;let⟨n,A⟩:=F? os.length;have HN:=A? A;have I:=A? hcell;rw[A]at L|-;go_loopw[28] (λi wr=>∃k:Nat,k<=n/\i=A! k/\dM wr p ((os.take k).foldl (cJ 4) l)/\Only (· =p) z wr) (λi _=>n-(intOf i).toNat)
 case atStart=>exact⟨0,S! _,rfl,r,Only.refl _ _⟩
 case round=>
  obtain⟨k,hk,rfl,d,s⟩:=hrel;by_cases hlt:k<n
  .have E:k<os.length:=Δ;let⟨u,m⟩:=I k E;replace u:=s.cell u<|show¬(g=p) from B!;replace m:=s.cell m<|show¬(g=p) from B!;have hst:=Cn l 4 os k E;generalize os[k]=x at u m hst;generalize (os.take k).foldl (cJ 4) l=acc at d hst;have Ds:=λw=>zK x w;have hO1:Only (· =p) z<|wr.alloc (.cells #[A! x.1,D? x.2] 203):=s.alloc _;have hS1:=d.below<|(P! _ _).alloc O? (.cells #[A! x.1,D? x.2] 203);have hh6:(wr.alloc (.cells #[A! x.1,D? x.2] 203)).heap[wr.heap.size]? =C! (.cells #[A! x.1,D? x.2] 203 (0,0)):=c! _ _;cases hr:gS x with
   |false=>
    rw[hr]at Ds;have HST:E!<|(os.take<|k+1).foldl (cJ 4) l=acc:=A? (by rw[hst];unfold cJ;rw[G? (.inl hr)]);exact naT
   |true=>
    rw[hr]at Ds;let⟨H,M⟩:=wI hr;cases ha:oJ acc x.1 with
    |false=>
     have HST:E!<|(os.take<|k+1).foldl (cJ 4) l=acc:=A? (by rw[hst];unfold cJ;rw[G? (.inr ha)]);exact nb7
    |true=>
     have HST:E!<|(os.take<|k+1).foldl (cJ 4) l=uw acc x.1:=A? nbS;have lT:=λw h=>yG p acc x.1 w h;have hstep:=λw h=>VD p acc x.1 w h H;rw[ha]at lT;go_wp2_with fail;refine M! (Ds _) λw3 hb3=>?_;have hS3:=hS1.below hb3;have hO3:=hO1.then hb3;have hh3:=bb hb3 hh6;have t0:w3.cell? (B? wr.heap.size 0)=N? x.1:=mcA;exact nai
  .obtain rfl:k=n:=B!;have hend:=d;rw[<-HN.out,v!]at hend;have hz2:=s.heap j B!;have yN:=t.trans<|s.below (B:=w.heap.size) t.size<|λk hk=>bcA;let⟨q,hq⟩:=F?<|os.foldl (cJ 4) l;exact ncl
end
theorem Q6(l:aZ)(e:Int)(v:I?)(t:List bD)(w:D!)(i:jL l=C?)(s:e=3\/e=4)(n:aI w v t):
 G! E? 258 #[.agg<|aC l,A! e,v] w (S? w (.tuple #[.agg<|aC (uy l e t).1,A! 0])):=by
 have r:(uy l e t).1=t.foldl (cJ e) l:=by
  unfold uy;rw[F!<|by rw[i];simp;omega]
 rw[r];rcases n.or with⟨rfl,rfl⟩|⟨g,o,c,rfl⟩
 .rcases s with rfl|rfl
  .exact NE l w i
  .exact NF l w i
 .rcases s with rfl|rfl
  .exact La l g o c t w i n
  .exact Lb l g o c t w i n
theorem Q7(l:aZ)(e:List bD)(k:Nat)(t:k<e.length):(e.take<|k+1).foldl tM l=tM ((e.take k).foldl tM l) e[k]:=by
 rw[u! t,ϙ];rfl
def Y4(e:List bD)(k:Nat)(o:bD):Bool:=(e.take k).any λq=>K? (q.1=o.1)
theorem IL(e:List bD)(k:Nat)(t:k<e.length):kG e (k+1)=(kG e k||(!gS e[k]||Y4 e k e[k])):=by
 unfold kG Y4;rw[bag,List.any_append];simp only[List.any_cons,List.any_nil,Bool.or_false,ο t]
theorem IM(e:List bD)(k n:Nat)(h:k<=n)(t:kG e k=C?):kG e n=true:=by
 unfold kG at*
 rw[ϋ]at*
 obtain⟨x,o,i⟩:=t;exact⟨x,List.mem_range.2<|Z! (List.mem_range.1 o) h,i⟩
theorem aI.take{w:D!}{g o n c:Nat}{l:List bD}(h:aI w (J! (C!<|B? g o) n c) l)(k:Nat)(m:k<=l.length):aI w (J! (C!<|B? g o) k c)<|l.take k:=by
 rcases h with⟨_,h⟩|⟨y,v,f,h,b,e,t,s⟩
 .cases h
 .cases h;refine .inr ⟨g,o,c,?_,?_,e,t,λj d i r=>?_⟩
  .rw[w!,Nat.min_eq_left m]
  .rw[w!];omega
  .have u:j<k/\j<l.length:=by rw[w!]at d;omega
   rw[s j u.2 i r,List.getElem_take]
theorem F3(g o n c k:Nat)(t:k<=c)(w:D!):(Instr.slice 155 (J! (C!<|B? g o) n c) L? (C!<|A! (k:Int)) L?).run E? w=.ok (J! (C!<|B? g o) k c) w:=by
 rw[run_slice_h w 155 _ n c M? .i64 (k:Int) B! B!];have e:∀w,(sizeOf<|prog.elem 155).run E? w=.ok 2 w:=λw=>M?;rw[e];simp only[Result.andThen,sliced];by_cases h:c=0
 .simp[h]
 .simp[h,Addr.add]
theorem qu:aC gf= xaf:=rfl
theorem Q8(w:D!):
 G! E? 248 #[Q!] w (S? w (.tuple #[.agg<|aC (jg ([]:List bD)).1,A! (jg ([]:List bD)).2])):=by
 go_in
 go_wp2_with fail;have o:((w.alloc (.cells (aC gf) 240)).alloc (.cells (aC gf) 363)).heap[w.heap.size]? =C! (.cells (aC gf) 240 (0,0)):=oQ _ _ _
 have t:dM ((w.alloc (.cells (aC gf) 240)).alloc (.cells (aC gf) 363)) (w.heap.size+1) gf:=by
  unfold dM;simpa using c! (w.alloc (.cells (aC gf) 240)) (.cells (aC gf) 363)
 have e:K! w<|(w.alloc (.cells (aC gf) 240)).alloc (.cells (aC gf) 363):=ak R! _;rw[qu]at o t e;generalize (w.alloc (.cells xaf 240)).alloc (.cells xaf 363)=s at o t e|-;go_loopw[11] (λi wr=>i=A! 0/\s=wr) (λi _=>0)
 case atStart=>exact⟨rfl,rfl⟩
 case round=>
  obtain⟨rfl,rfl⟩:=hrel;have hend:=t;have hz2:=o;have yN:=e;let⟨q,n⟩:=F? gf;have HQ:E!<|([]:List bD).foldl tM gf=q:=A? n;have HBD:E!<|kG [] ([]:List bD).length=false:=A? rfl;rw[n]at hend;let⟨r,l,d,c,u,m⟩:=hend.cells;have fF:=λw=>lE q w;have Ah:=A? jU;rw[Ah.out]at fF;cases hq:jL q with
  |false=>
   rw[hq]at fF;have HT:E!<|jg ([]:List bD)=(gf,1400):=A? nbi;exact ncQ
  |true=>
   rw[hq]at fF;have HT:E!<|jg ([]:List bD)=(q,0):=A? ncF;exact nbF
theorem NG(g o c:Nat)(e:List bD)(w:D!)(C:aI w (J! (C!<|B? g o) e.length c) e):
 G! E? 248 #[J! (C!<|B? g o) e.length c] w (S? w (.tuple #[.agg<|aC (jg e).1,A! (jg e).2])):=by
 have hn:=aD.le C;have b2:=aD.lt C g rfl;go_in;go_wp2_with fail;have N:((w.alloc (.cells (aC gf) 240)).alloc (.cells (aC gf) 363)).heap[w.heap.size]? =C! (.cells (aC gf) 240 (0,0)):=oQ _ _ _
 have hS:dM ((w.alloc (.cells (aC gf) 240)).alloc (.cells (aC gf) 363)) (w.heap.size+1) gf:=by
  unfold dM;simpa using c! (w.alloc (.cells (aC gf) 240)) (.cells (aC gf) 363)
 have f:K! w<|(w.alloc (.cells (aC gf) 240)).alloc (.cells (aC gf) 363):=ak R! _;rw[qu]at N hS f;generalize (w.alloc (.cells xaf 240)).alloc (.cells xaf 363)=Z at N hS f|-;have a6:=A?<|C.below f;obtain⟨-,ae,hcm,hcell⟩:=(C.below f).cells;let⟨n,V⟩:=F? e.length;have HN:=A? V;have a4:=A? hcell;have b1:c<=9223372036854775807:=na2;rw[V]at hn ae|-;clear V hcell C hcm;go_loopw[11] (λi wr=>∃k:Nat,k<=n/\i=A! k/\dM wr (w.heap.size+1) ((e.take k).foldl tM gf)/\Only (· =w.heap.size+1) Z wr/\E! (kG e k=H!)) (λi _=>n-(intOf i).toNat)
 case atStart=>exact⟨0,S! _,rfl,hS,Only.refl _ _,A? rfl⟩
 case round=>
  obtain⟨k,hk,rfl,H,z,J⟩:=hrel;by_cases hlt:k<n
  .have Y:k<e.length:=Δ;let⟨d1,d2⟩:=a4 k Y;replace d1:=z.cell d1<|show¬(g=w.heap.size+1) from B!;replace d2:=z.cell d2<|show¬(g=w.heap.size+1) from B!;have I:=Q7 gf e k Y;have E:=IL e k Y;have D:=IM e (k+1) e.length B!;rw[J.out,Bool.false_or]at E;have G:=λw h=>FZ (e[k]).1 (J! (C!<|B? g o) k c) (e.take k) w h;have L:=Cl (e[k]).1<|e.take k;have a0:=(a6.take k B!).only z (λan ad=>by cases ad;show¬(g=w.heap.size+1);omega);generalize e[k]=x at d1 d2 I E G L;generalize (e.take k).foldl tM gf=a1 at H I;have R:=λw=>zK x w;have b3:=F3 g o n c k B!;have M:Only (· =w.heap.size+1) Z<|wr.alloc (.cells #[A! x.1,D? x.2] 203):=z.alloc _;have aa:=H.below<|(P! _ _).alloc O? (.cells #[A! x.1,D? x.2] 203);have a2:=aD.below a0<|(P! _ _).alloc O? (.cells #[A! x.1,D? x.2] 203);have al:(wr.alloc (.cells #[A! x.1,D? x.2] 203)).heap[wr.heap.size]? =C! (.cells #[A! x.1,D? x.2] 203 (0,0)):=c! _ _;have b:(wr.alloc (.cells #[A! x.1,D? x.2] 203)).cell? (B? wr.heap.size 0)=N? x.1:=ϖ;have j:(wr.alloc (.cells #[A! x.1,D? x.2] 203)).cell? (B? wr.heap.size 1)=C! (D? x.2):=ϖ;have a3:=M.heap N<|show¬(w.heap.size=w.heap.size+1) from B!;clear hS N z H a0;cases A:gS x with
   |false=>
    rw[A]at R;have HT:E!<|jg e=(gf,1400):=A? (by unfold jg;rw[G? (.inl<|D<|by rw[E,A];rfl)]);clear I A E D;go_wp2;refine dW (λm=>J? m wr.heap.size 0 x.1/\L! m wr.heap.size 1 (D? x.2)) (zcb [1,1,7,1,2]) ⟨b,j⟩ ?_;refine R? ?_;intro K s;go_wp2_with(go_at_call 281;refine M! (R _) λu t=>?_);refine O! s ⟨af t b,af t j⟩ ?_;clear s K;refine R? ?_;intro K s;go_wp2_with fail;refine O! s ⟨af t b,af t j⟩ ?_;clear s K;refine T? ?_;have hz3:=bb t<|show(World.drew _).heap[_]? =_ from a3;have hB3:=seqB (aQ<|f.trans<|M.below (B:=w.heap.size) f.size<|λk hk=>bcA) t;have z0:u.cell? (B? w.heap.size 0)=N? 0:=ϥ;have z1:u.cell? (B? w.heap.size 1)=N? 0:=ϥ;have z2:u.cell? (B? w.heap.size 2)=N? 0:=ϥ;have z3:u.cell? (B? w.heap.size 3)=C! (H? H!):=ϥ;have z4:u.cell? (B? w.heap.size 4)=C! (D? ⟨#[]⟩):=ϥ;have z5:u.cell? (B? w.heap.size 5)=N? 0:=ϥ;have f0:u.frozen? (B? w.heap.size 0)=false:=ϳ;have f1:u.frozen? (B? w.heap.size 1)=false:=ϳ;have f2:u.frozen? (B? w.heap.size 2)=false:=ϳ;have f3:u.frozen? (B? w.heap.size 3)=false:=ϳ;have f4:u.frozen? (B? w.heap.size 4)=false:=ϳ;have f5:u.frozen? (B? w.heap.size 5)=false:=ϳ;exact nci
   |true=>
    rw[A]at R;let⟨W,b4⟩:=wI A;cases O:Y4 e k x with
    |true=>
     have HT:E!<|jg e=(gf,1400):=A? (by unfold jg;rw[G? (.inl<|D<|by rw[E,O];simp)]);have ag:=L.trans O;clear I A E D O L W;go_wp2;refine dW (λm=>J? m wr.heap.size 0 x.1/\L! m wr.heap.size 1 (D? x.2)) (zcb [1,1,7,1,2]) ⟨b,j⟩ ?_;refine R? ?_;intro K s;go_wp2_with(go_at_call 281;refine M! (R _) λu t=>?_);refine O! s ⟨af t b,af t j⟩ ?_;clear s K;refine R? ?_;intro K s;have X:=aD.below (aD.below a2 (P! _ _).drew) t;go_wp2_with(go_at_call 272;refine M! (G _ X) λr y=>?_);refine O! s ⟨af y<|af t b,af y<|af t j⟩ ?_;clear s K;refine T? ?_;have hz3:=bb y<|bb t<|show(World.drew _).heap[_]? =_ from a3;have hB3:=seqB (seqB (aQ<|f.trans<|M.below (B:=w.heap.size) f.size<|λk hk=>bcA) t) y;have z0:r.cell? (B? w.heap.size 0)=N? 0:=ϥ;have z1:r.cell? (B? w.heap.size 1)=N? 0:=ϥ;have z2:r.cell? (B? w.heap.size 2)=N? 0:=ϥ;have z3:r.cell? (B? w.heap.size 3)=C! (H? H!):=ϥ;have z4:r.cell? (B? w.heap.size 4)=C! (D? ⟨#[]⟩):=ϥ;have z5:r.cell? (B? w.heap.size 5)=N? 0:=ϥ;have f0:r.frozen? (B? w.heap.size 0)=false:=ϳ;have f1:r.frozen? (B? w.heap.size 1)=false:=ϳ;have f2:r.frozen? (B? w.heap.size 2)=false:=ϳ;have f3:r.frozen? (B? w.heap.size 3)=false:=ϳ;have f4:r.frozen? (B? w.heap.size 4)=false:=ϳ;have f5:r.frozen? (B? w.heap.size 5)=false:=ϳ;exact nci
    |false=>
     have a7:E!<|kG e (k+1)=false:=A? (by rw[E,A,O];rfl);have a5:=A? I;have ag:=L.trans O;have am:∀m,dM m (w.heap.size+1) a1->_:=λm h=>Ur (w.heap.size+1) a1 x m h W B!;clear I A E D O L W;go_wp2;refine dW (λm=>J? m wr.heap.size 0 x.1/\L! m wr.heap.size 1 (D? x.2)) (zcb [1,1,7,1,2]) ⟨b,j⟩ ?_;refine R? ?_;intro K s;go_wp2_with(go_at_call 281;refine M! (R _) λu t=>?_);refine O! s ⟨af t b,af t j⟩ ?_;clear s K;refine R? ?_;intro K s;have X:=aD.below (aD.below a2 (P! _ _).drew) t;go_wp2_with(go_at_call 272;refine M! (G _ X) λr y=>?_);refine O! s ⟨af y<|af t b,af y<|af t j⟩ ?_;clear s K;refine T? ?_;have ab:=((dM.below aa (P! _ _).drew).below t).below y;have a8:=((M.drew).then t).then y;have hh4:=bb y<|bb t<|show(World.drew _).heap[_]? =_ from al;have u0:r.cell? (B? wr.heap.size 0)=N? x.1:=bau;have u1:r.cell? (B? wr.heap.size 1)=C! (D? x.2):=bau;go_wp2_with fail;apply(am _ ab).mono;rintro b0 b5 ⟨rfl,ac,a9⟩;go_wp2;go_roundw
     case rel=>exact⟨k+1,B!,W!,by rw[a5.out];exact ac,a8.trans a9,a7⟩
     case measure=>simp[intOf];omega
  .obtain rfl:k=n:=B!;have hend:=H;let⟨q,F⟩:=F?<|e.foldl tM gf;have HQ:=A? F;rw[<-HN.out,v!,F]at hend;have HBD:E!<|kG e e.length=false:=A? (by rw[HN.out];exact J.out);have hz2:=z.heap N<|show¬(w.heap.size=w.heap.size+1) from B!;have yN:=f.trans<|z.below (B:=w.heap.size) f.size<|λk hk=>bcA;clear H z hS N F;let⟨ao,ap,ar,av,ax,az⟩:=hend.cells;have fF:=λw=>lE q w;have Ah:=A? jU;rw[Ah.out]at fF;cases hq:jL q with
   |false=>
    rw[hq]at fF;have HT:E!<|jg e=(gf,1400):=A? nbi;exact ncQ
   |true=>
    rw[hq]at fF;have HT:E!<|jg e=(q,0):=A? ncF;exact nbF
theorem Q9(v:I?)(e:List bD)(w:D!)(t:aI w v e):
 G! E? 248 #[v] w (S? w (.tuple #[.agg<|aC (jg e).1,A! (jg e).2])):=by
 rcases t.or with⟨rfl,rfl⟩|⟨g,o,c,rfl⟩
 .exact Q8 w
 .exact NG g o c e w t
theorem bq.form{P:Program}{e:Type}{E:Elem P e}{w:D!}{b:Nat}{v:I?}{l:List e}(h:bq E w b v l):∃a c,v=J! a l.length c:=by
 exact nbg
section
variable(own:aZ)(os:List bD)(k:Nat)
include own os k
theorem NH(e:k<os.length):gJ own os (k+1)=gJ own os k++(if ux own (os.take k) os[k]then[os[k]]else[]):=by
 unfold gJ;rw[bag,mdV];congr 1;simp only[ύ,ϟ,ο e];cases ux own (os.take k) os[k]<;>simp
theorem F4(e:k<os.length):bU own os (k+1)=bU own os k++(if ux own (os.take k) os[k]then[]else(eT own os[k]).toList):=by
 unfold bU;rw[bag,mdV];congr 1;simp only[ύ,ϟ,ο e];cases ux own (os.take k) os[k]<;>cases eT own os[k]<;>simp
theorem Ra:(gJ own os k).length<=k:=by
 unfold gJ;refine Z? (bbO _ _) N!
theorem IP:(bU own os k).length<=k:=by
 unfold bU;refine Z? (bbO _ _) N!
end
def F5(u v:I?):Prop:=∀g,u.ownBlock=C! g->v.ownBlock≠C! g
theorem F5.symm{u v:I?}(h:F5 u v):F5 v u:=λg t e=>h g e t
theorem F5.grow{u t v:I?}{n:Nat}(h:F5 u v)(r:t.ownBlock=u.ownBlock\/∃k,t.ownBlock=C! k/\n<=k)(l:∀k,v.ownBlock=C! k->k<n):F5 t v:=by
 intro g o s;rcases r with e|⟨k,i,d⟩
 .exact h g (e.symm.trans o) s
 .have:=l g s;rw[o]at i;cases i;omega
theorem Us(o:bD):yj o=C?↔0<=o.1/\o.1<=255/\o.2.size<=253:=by
 unfold yj;simp[and_assoc]
theorem NI(own:aZ)(g o c:Nat)(os:List bD)(w:D!)(hm:jL own=C?)(D:aI w (J! (C!<|B? g o) os.length c) os)(b5:os.length<=1000000):
 G! E? 256 #[.agg<|aC own,J! (C!<|B? g o) os.length c] w λe t=>∃v,e=.returned (.tuple #[A! (gT own os).1,v,A! (gT own os).2.2])/\bq dS t w.heap.size v (gT own os).2.1/\K! w t:=by
 have br:=aD.lt D g rfl;have I:=λw=>lE own w;have a7:=A?<|D3 hm;have an:=A? hm;rw[hm]at I;clear hm;have C:=A? jU;rw[C.out]at I|-;go_in;go_wp2_with fail;refine M! (I _) λw1 B=>?_;have ag:w1.heap[w.heap.size]? =C! (.cells (aC own) 240 (0,0)):=bb B (by rw[C.out];exact c! _ _);let⟨ao,ap,ar,aa,av,ax⟩:=oB ag;have ad:=seqB R! B;clear B I;go_wp2_with fail;have hS:dM (w1.alloc (.cells (aC own) 363)) w1.heap.size own:=c! _ _;have a1:=af ((P! w1.heap.size w1).alloc O? (.cells (aC own) 363)) aa;have f:K! w<|w1.alloc (.cells (aC own) 363):=ak ad _;rw[C.out]at hS a1 f;generalize w1.alloc (.cells #[A! own.iO,A! own.aH,A! own.cW,H? own.short,D? own.dh,A! own.num] 363)=W2 at hS a1 f|-;generalize w1.heap.size=p at hS|-;clear ag ao ap ar aa av ax ad;have a8:=A?<|D.below f;obtain⟨-,b3,hcm,hcell⟩:=(D.below f).cells;let⟨n,J⟩:=F? os.length;have HN:=A? J;have am:=A? hcell;have bo:c<=9223372036854775807:=na2;rw[J]at b5 b3|-;clear J hcell D hcm;go_loopw[8,9,22] (λb d a3 wr=>∃k:Nat,k<=n/\a3=A! k/\bq dS wr W2.heap.size b (gJ own os k)/\bq dS wr W2.heap.size d (bU own os k)/\F5 b d/\K! W2 wr/\E! ((os.take k).all yj=C?)) (λ_ _ a3 _=>n-(intOf a3).toNat)
 case atStart=>exact⟨0,S! _,rfl,bq.nil _ _ _,bq.nil _ _ _,(λg b4=>by cases b4),P! _ _,A? rfl⟩
 case round=>
  obtain⟨k,bs,rfl,ny,Az,hap,hbl,a5⟩:=hrel;by_cases hlt:k<n
  .have A:k<os.length:=Δ;let⟨G,W⟩:=am k A;replace G:=af hbl G;replace W:=af hbl W;have hbs:=NH own os k A;have hgs:=F4 own os k A;have bi:=Ra own os k;have bj:=IP own os k;have H:=l! A;have hfind:=λw h=>FZ (os[k]).1 (J! (C!<|B? g o) k c) (os.take k) w h;have s:=Cl (os[k]).1<|os.take k;have a9:=aD.below (a8.take k B!) hbl;let⟨x,a2⟩:=F?<|os[k];rw[a2]at G W hbs hgs hfind s H
   have V:(os.take<|k+1).all yj=yj x:=by
    rw[u! A,List.all_append,a5.out,a2];simp
   have Ds:=λw=>zK x w;have b6:=F3 g o n c k B!;have hv1:=aD.below a9<|(P! _ _).alloc O? (.cells #[A! x.1,D? x.2] 203);have hh6:(wr.alloc (.cells #[A! x.1,D? x.2] 203)).heap[wr.heap.size]? =C! (.cells #[A! x.1,D? x.2] 203 (0,0)):=c! _ _;have s0:(wr.alloc (.cells #[A! x.1,D? x.2] 203)).cell? (B? wr.heap.size 0)=N? x.1:=ϖ;have s1:(wr.alloc (.cells #[A! x.1,D? x.2] 203)).cell? (B? wr.heap.size 1)=C! (D? x.2):=ϖ;have s3:=af ((P! wr.heap.size wr).alloc O? (.cells #[A! x.1,D? x.2] 203))<|af hbl a1;clear a2 a9;cases q:yj x with
   |false=>
    have HT:E!<|gT own os=(0,[],1400):=A? (by unfold gT;rw[G? (.inr<|ϋ.2 ⟨x,H,by rw[q];rfl⟩)])
    have bv:x.1<0\/255<x.1\/253<x.2.size:=by
     have:=mt (Us x).2 (by rw[q];simp);omega
    have yN:K! w<|wr.alloc (.cells #[A! x.1,D? x.2] 203):=ak (seqB f hbl) _;clear q V hbs hgs H hfind s Ds b6 hv1 hh6 s0 s1 s3 ny Az;by_cases az:x.1<0
    .go_wp2
     exact mdx
    .by_cases b0:255<x.1
     .go_wp2
      exact mdx
     .have b1:253<x.2.size:=B!;go_wp2;exact mdx
   |true=>
    let⟨az,b0,b1⟩:=(Us x).1 q;have HF:=A?<|V.trans q;have agu:=λw h=>Q5 p own x w h a7.2.1.1 a7.2.1.2 B!;clear V H q;cases r:gS x with
    |false=>
     have oD:ux own (os.take k) x=true:=by unfold ux;rw[r];rfl
     rw[r]at Ds;clear r s hfind;have HB8:E!<|gJ own os (k+1)=gJ own os k++[(x.1,x.2)]:=A? mb6;have HB9:E!<|bU own os (k+1)=bU own os k:=A? bbX;clear hbs hgs oD;go_wp2;refine dW (λt=>J? t wr.heap.size 0 x.1/\L! t wr.heap.size 1 (D? x.2)/\L! t w.heap.size 3 (H? own.short)) (zcb [1,1,17,1,2]) ⟨s0,s1,s3⟩ ?_;exact nah
    |true=>
     rw[r]at Ds;by_cases u:x.1=18
     .have b8:(x.1==18)=true:=by simp[u]
      cases L:own.short with
      |false=>
       have oD:ux own (os.take k) x=true:=by unfold ux;rw[L];simp[u]
       rw[L]at s3;clear r s hfind u;have HB8:E!<|gJ own os (k+1)=gJ own os k++[(x.1,x.2)]:=A? mb6;have HB9:E!<|bU own os (k+1)=bU own os k:=A? bbX;clear hbs hgs oD;go_wp2;refine dW (λt=>J? t wr.heap.size 0 x.1/\L! t wr.heap.size 1 (D? x.2)/\L! t w.heap.size 3 (H? H!)) (zcb [1,1,17,1,2]) ⟨s0,s1,s3⟩ ?_;exact nah
      |true=>
       rw[L]at s3;cases i:(os.take k).any λa4=>K? (a4.1=x.1)with
       |true=>
        have X:=s.trans i;have oD:ux own (os.take k) x=true:=by unfold ux;rw[i];simp
        clear r s i u;have HB8:E!<|gJ own os (k+1)=gJ own os k++[(x.1,x.2)]:=A? mb6;have HB9:E!<|bU own os (k+1)=bU own os k:=A? bbX;clear hbs hgs oD;go_wp2;refine dW (λt=>J? t wr.heap.size 0 x.1/\L! t wr.heap.size 1 (D? x.2)/\L! t w.heap.size 3 (H? C?)) (zcb [1,1,17,1,2]) ⟨s0,s1,s3⟩ ?_;exact ncK
       |false=>
        have X:=s.trans i;have oD:ux own (os.take k) x=false:=by unfold ux;rw[r,i,L];simp
        clear r s i u;have HB8:E!<|gJ own os (k+1)=gJ own os k:=A? (by rw[hbs,oD];simp);have HB9:E!<|bU own os (k+1)=bU own os k++(eT own x).toList:=A? bbX;clear hbs hgs oD;go_wp2;refine dW (λt=>J? t wr.heap.size 0 x.1/\L! t wr.heap.size 1 (D? x.2)/\L! t w.heap.size 3 (H? C?)) (zcb [1,1,17,1,2]) ⟨s0,s1,s3⟩ ?_;exact nbG
     .have b8:=Q?.2 u;cases i:(os.take k).any λa4=>K? (a4.1=x.1)with
      |true=>
       have X:=s.trans i;have oD:ux own (os.take k) x=true:=by unfold ux;rw[i];simp
       clear r s i u;have HB8:E!<|gJ own os (k+1)=gJ own os k++[(x.1,x.2)]:=A? mb6;have HB9:E!<|bU own os (k+1)=bU own os k:=A? bbX;clear hbs hgs oD;go_wp2;refine dW (λt=>J? t wr.heap.size 0 x.1/\L! t wr.heap.size 1 (D? x.2)/\L! t w.heap.size 3 (H? own.short)) (zcb [1,1,17,1,2]) ⟨s0,s1,s3⟩ ?_;exact ncK
      |false=>
       have X:=s.trans i;have oD:ux own (os.take k) x=false:=by unfold ux;rw[r,i];simp[u]
       clear r s i u;have HB8:E!<|gJ own os (k+1)=gJ own os k:=A? (by rw[hbs,oD];simp);have HB9:E!<|bU own os (k+1)=bU own os k++(eT own x).toList:=A? bbX;clear hbs hgs oD;go_wp2;refine dW (λt=>J? t wr.heap.size 0 x.1/\L! t wr.heap.size 1 (D? x.2)/\L! t w.heap.size 3 (H? own.short)) (zcb [1,1,17,1,2]) ⟨s0,s1,s3⟩ ?_;exact nbG
  .obtain rfl:k=n:=B!
   have ae:os.any (λo=> !yj o)=false:=by
    have h:=a5.out;rw[<-HN.out,v!]at h;rw[bbP];intro bc b7;rw[List.all_eq_true]at h;rw[h bc b7];simp
   have a6:E! (gT own os=if gJ own os os.length≠[]then(2,gJ own os os.length,0)else if bU own os os.length≠[]then(1,bU own os os.length,0)else(0,os,0)):=A? (by
    unfold gT;rw[F! (by rw[ae,an.out];simp)])
   have yN:=seqB f hbl;have z:=ny.base (b':=w.heap.size) f.size;have E:=Az.base (b':=w.heap.size) f.size;rw[<-HN.out]at z E;let⟨M,N⟩:=F?<|gJ own os os.length;let⟨F,R⟩:=F?<|bU own os os.length;rw[N]at z;rw[R]at E;have Y:=a6.out;rw[N,R]at Y;have Z:=ny;have a0:=Az;have ab:gJ own os k=M:=by rw[<-HN.out];exact N
   have ac:bU own os k=F:=by rw[<-HN.out];exact R
   rw[ab]at Z;rw[ac]at a0;let⟨be,bl,b9⟩:=bq.form Z;let⟨bf,bm,ba⟩:=bq.form a0;have j:=A? Y;clear ae a6 ny Az N R Y ab ac Z a0;subst b9 ba;by_cases y:M=[]
   .by_cases O:F=[]
    .have m:E!<|gT own os=(0,os,0):=A? (by rw[j.out,F!<|by rw[y];simp,F!<|by rw[O];simp]);subst y O;have al:=aD.below a8 hbl;have b2:(([]:List bD).length+os.length)*24<=140737488355328:=by rw[HN.out];simp;omega
     rw[HN.out]at al;clear j z E;go_wp2_with(at_builtin;apply Ck rfl _ _ rfl w _ _ [] os (bq.nil _ _ _) al rfl rfl b2 yN;intro v' w6 iX Lc _ _);go_ret3;exact⟨v',by rw[m.out];rfl,by rw[m.out];simpa using iX,Lc⟩
    .have m:E!<|gT own os=(1,F,0):=A? (by rw[j.out,F!<|by rw[y];simp,G? O]);have c0:=ϛ.2 O;subst y;clear j z O;go_wp2;go_ret3;exact⟨_,by rw[m.out];rfl,by rw[m.out];exact E,yN⟩
   .have m:E!<|gT own os=(2,M,0):=A? (by rw[j.out,G? y]);have bz:=ϛ.2 y;clear j E y;go_wp2;go_ret3;exact⟨_,by rw[m.out];rfl,by rw[m.out];exact z,yN⟩
def gy(o:bD):Bool:=K? (o.1<0)||K? (255<o.1)
theorem Y9(o:bD)(w:D!):G! E? 250 #[.agg #[A! o.1,D? o.2]] w (S? w<|H?<|gy o):=by
 by_cases h:o.1<0
 .have e:E!<|gy o=true:=A? (by unfold gy;simp[h]);go_wp2;go_ret;exact⟨by rw[e.out];rfl,R!⟩
 .have e:E!<|gy o=K? (255<o.1):=A? (by unfold gy;simp[h]);go_wp2;go_ret;exact⟨by rw[e.out];rfl,R!⟩
def qR(l:List bD):Int:=match l.findIdx? gy with|some i=>(i:Int)|none=> -1
theorem NM(l:List bD)(j:Nat)(t:j<l.length)(h:∀i (e:i<j),gy (l[i]' B!)=H!)(o:gy l[j]=C?):qR l=(j:Int):=by
 unfold qR
 have:l.findIdx? gy=C! j:=by
  rw[bcf];exact⟨t,o,λi e=>by rw[h i e];simp⟩
 rw[this]
theorem Ld(l:List bD)(h:∀i (e:i<l.length),gy l[i]=H!):qR l= -1:=by
 unfold qR
 have:l.findIdx? gy=none:=by
  rw[bcC];intro x t;obtain⟨i,e,rfl⟩:=List.mem_iff_getElem.1 t;exact h i e
 rw[this]
theorem NN(l:List bD):K? (0<=qR l)=l.any gy:=by
 unfold qR;cases e:l.findIdx? gy with
 |none=>
  rw[bcC]at e
  symm
  simp only[show K? ((0:Int)<= -1)=H! from I!];rw[bbP];intro x t;rw[e x t];simp
 |some i=>
  let⟨o,t,_⟩:=bcf.1 e;have:K? ((0:Int)<=(i:Int))=true:=N!;rw[this]
  symm
  rw[ϋ];exact⟨l[i],l! o,t⟩
theorem IQ(g o c:Nat)(l:List bD)(w:D!)(h:aI w (J! (C!<|B? g o) l.length c) l)(O:l.length<=9223372036854775807):
 G! E? 283 #[J! (C!<|B? g o) l.length c,.func (.func 250) #[] #[]] w (S? w<|A!<|qR l):=by
 obtain⟨-,-,-,E⟩:=h.cells;let⟨n,v⟩:=F? l.length;have HN:=A? v;have q:=A? E;rw[v]at O|-;go_wp2;go_loopw[8] (λi wr=>∃j:Nat,j<=n/\i=A! j/\K! w wr/\∀i (e:i<l.length),i<j->gy l[i]=H!) (λi _=>n-(intOf i).toNat)
 case atStart=>exact⟨0,S! _,rfl,P! _ _,λi _ h=>absurd h<|bb9 _⟩
 case round=>
  obtain⟨j,R,rfl,t,I⟩:=hrel;have m:=A? I;by_cases hlt:j<n
  .have b:j<l.length:=Δ;let⟨s,r⟩:=q j b;replace s:=(t.cell<|h! s).trans s;replace r:=(t.cell<|h! r).trans r;let⟨x,k⟩:=F?<|l[j];rw[k]at s r;have y:=A? k;have d:=λw=>Y9 x w;cases u:gy x with
   |true=>
    rw[u]at d;have hr:=A?<|NM l j b (λi e=>m i B! e)<|by rw[y.out];exact u
    go_wp2_with fail;refine M! (d _) λN f=>?_;go_wp2;go_ret;exact⟨baC,seqB t f⟩
   |false=>
    rw[u]at d;have z:=A? u;go_wp2_with fail;refine M! (d _) λN f=>?_;go_wp2;go_roundw
    case rel=>
     refine⟨j+1,B!,W!,seqB t f,λi e S=>?_⟩;by_cases A:i=j
     .subst A;rw[y.out];exact z
     .exact m i e B!
    case measure=>simp[intOf];omega
  .obtain rfl:j=n:=B!;have hr:=A?<|Ld l<|λi e=>m i e<|by rw[<-HN.out];exact e
   go_wp2
   go_ret;exact⟨baC,t⟩
theorem qw(v:I?)(l:List bD)(w:D!)(h:aI w v l):
 G! E? 249 #[v,.func (.func 250) #[] #[]] w (S? w<|H?<|l.any gy):=by
 have r:=aD.le h;have t:=NN l;rcases h.or with⟨rfl,rfl⟩|⟨g,o,c,rfl⟩
 .clear t;go_in;go_wp2_with fail;apply(yH 0 _ _ _).mono;rintro e d ⟨rfl,rfl⟩;go_wp2;go_ret;exact⟨rfl,P! _ _⟩
 .have i:=IQ g o c l w h r;generalize qR l=z at i t;have n:=A? t.symm;go_in;go_wp2_with fail;refine M! i λd s=>?_;go_wp2;go_ret;exact⟨by rw[n.out];rfl,s⟩
theorem D5(e:List bD)(k:Nat)(t:k<e.length):jh e (k+1)=jh e k++Dl e[k]:=by
 unfold jh;rw[u! t,ϣ];simp
theorem NP(o:bD):(Dl o).length=2+o.2.size:=by unfold Dl;simp[bK];omega
theorem F8(e:List bD)(k:Nat)(t:k<e.length):nY e k=(decide (253<e[k].2.size)||K? (2048<(jh e k).length+2+e[k].2.size)):=by
 unfold nY;rw[ο t]
theorem agv(x:bD)(t:0<=x.1)(o:x.1<=255)(i:x.2.size<=253):(strOfNums [x.1,(2:Int)+x.2.size]++x.2).data.toList=Dl x:=by
 have e:(((2:Int)+x.2.size).toNat)=2+x.2.size:=B!;rw[rH];simp only[i?,y!,e];unfold Dl bytesOf;simp
theorem Re(x:bD):(strOfNums [x.1,(2:Int)+x.2.size]++x.2).size=2+x.2.size:=by
 rw[mcG,ν];rfl
theorem Ut(W:D!)(B n:Nat)(e:List Int)(T:TypeId)(o:Nat×Nat)(t:Array I?)(h:W.heap[B]? =C! (.cells t T o))(s:t=(e.map<|Value.int .u8).toArray)(r:e.length=n):
 (convert 64 9<|J! (C!<|B? B 0) n n).run E? W=.ok (D?<|strOfNums e) W:=by
 subst s;refine bcE W 64 5 underlying64 underlying5 B 0 n n e r (λi d=>?_) 9 underlying9;have l:i<e.length:=B!;simp[World.cell?,h,List.getD,l]
theorem VJ(g o c:Nat)(os:List bD)(w:World)(h:aI w (.slice (some<|B? g o) os.length c) os)(hg:os.any gy=false):
 Calls prog 211 #[.slice (some<|B? g o) os.length c] w (S? w (.tuple #[.string<|bytesOf (cA os).1,A! (cA os).2])):=by
 have hn:=aD.le h;have Dt:=λw h=>qw (.slice (some<|B? g o) os.length c) os w h;rw[hg]at Dt;have HG:=A? hg
 have HM:Hid (cA os=if(List.range os.length).any (nY os)=true then([],401)else(jh os os.length,0)):=A? (by
  unfold cA;rw[F! (by rw[show(os.any λo=>decide (o.1<0)||decide (255<o.1))=os.any gy from rfl,hg];simp)])
 obtain⟨n,hnn⟩:∃n,os.length=n:=⟨_,rfl⟩;have HN:=A? hnn;rw[hnn]at h Dt hn|-;go_in;go_wp2_with fail;refine(Dt _ h).mono ?_;rintro e w1 ⟨rfl,hb1⟩;go_wp2_with fail;have hcell:=(aI.cells<|h.below hb1).2.2.2;have HC:=A? hcell;have hbd:jV w1.heap.size w1.heap.size []<|w1.alloc (.cells xai 102):=jV.new O?<|c! _ _;have fX:K! w1<|w1.alloc (.cells xai 102):=R!;go_loopw[11] (λi wr=>∃k:Nat,k<=n/\i=A! k/\jV w1.heap.size w1.heap.size (jh os k) wr/\K! w1 wr/\(jh os k).length<=2048/\Hid (∀j,j<k->nY os j=false)) (λi _=>n-(intOf i).toNat)
 case atStart=>exact⟨0,S! _,rfl,hbd,fX,by simp[jh],A? λj hj=>absurd hj<|bb9 _⟩
 case round=>
  obtain⟨k,hk,rfl,hbr,hbl,hl,HLo⟩:=hrel;by_cases hlt:k<n
  .have hkl:k<os.length:=Δ;obtain⟨d1,d2⟩:=HC k hkl;replace d1:=af hbl d1;replace d2:=af hbl d2;have hsu:=D5 os k hkl;have hlo:=F8 os k hkl;have hkb:=bbP.1 HG _<|l! hkl;obtain⟨x,hx⟩:∃x,os[k]=x:=⟨_,rfl⟩;rw[hx]at d1 d2 hsu hlo hkb;have hk0:0<=x.1/\x.1<=255:=by unfold gy at hkb;simp at hkb;omega
   obtain⟨acc,hacc⟩:∃acc,jh os k=acc:=⟨_,rfl⟩;rw[hacc]at hbr hl hsu hlo;have s1:(wr.alloc (.cells #[A! x.1,.string x.2] 203)).cell? (B? wr.heap.size 1)=some (.string x.2):=ϖ;have Y':=(hbr.below<|(P! _ _).alloc O? (.cells #[A! x.1,.string x.2] 203));have aeW:=Y'.below (P! _ _).drew;have Ac:K! w1 (wr.alloc (.cells #[A! x.1,.string x.2] 203)).drew:=aQ<|ak hbl _;by_cases hz:253<x.2.size
   .have HT:Hid (cA os=([],401)):=A? (by
     rw[HM.out,G? (ϋ.2 ⟨k,List.mem_range.2 hkl,by rw[hlo];simp[hz]⟩)])
    have xH:decide ((253:Int)<(x.2.size:Int))=true:=b! B!;go_wp2;refine dW (λw'=>w'.cell? (B? wr.heap.size 1)=some (.string x.2)) (zca [0,2,4,6,8,14,16,18,11,12,20,22,24]) s1 ?_;refine tK ?_;refine ai<|λK hK=>?_;go_wp2_with fail;exact nce
   .have hz2:¬(253:Int)<(x.2.size:Int):=B!;have xH:=W? hz2;have hw1:IntKind.i64.wrap ((acc.length:Int)+2)=(acc.length:Int)+2:=ϫ _ B!;have hw2:IntKind.i64.wrap ((acc.length:Int)+2+(x.2.size:Int))=(acc.length:Int)+2+(x.2.size:Int):=ϫ _ B!;by_cases hm:2048<acc.length+2+x.2.size
    .have HT:Hid (cA os=([],401)):=A? (by
      rw[HM.out,G? (ϋ.2 ⟨k,List.mem_range.2 hkl,by rw[hlo];simp[hm]⟩)])
     have hdm:decide ((2048:Int)<(acc.length:Int)+2+(x.2.size:Int))=true:=b! B!;go_wp2;refine dW (λw'=>w'.cell? (B? wr.heap.size 1)=some (.string x.2)) (zca [0,2,4,6,8,14,16,18,11,12,20,22,24]) s1 ?_;refine tK ?_;refine ai<|λK hK=>?_;go_wp2_with(go_at_call 138;refine(F7 _ _ acc _ aeW).mono ?_;rintro e w' ⟨rfl,rfl⟩);exact nce
    .have hlf:nY os k=false:=by rw[hlo,W? hz,W? hm];rfl
     have aia:Hid (∀j,j<k+1->nY os j=false):=A? (λj hj=>by
      by_cases e:j=k
      .subst e;exact hlf
      .exact HLo.out j B!)
     have D4:=A? hsu;have pS:=NP x;have HX:=A?<|agv x hk0.1 hk0.2 B!;have hxs:=Re x;have hdm:decide ((2048:Int)<(acc.length:Int)+2+(x.2.size:Int))=false:=W? B!;go_wp2;refine dW (λw'=>w'.cell? (B? wr.heap.size 1)=some (.string x.2)) (zca [0,2,4,6,8,14,16,18,11,12,20,22,24]) s1 ?_;refine tK ?_;refine ai<|λK hK=>?_;go_wp2_with(go_at_call 138;refine(F7 _ _ acc _ aeW).mono ?_;rintro e w' ⟨rfl,rfl⟩);refine ah<|hK _ _ s1 ?_;refine tK ?_;refine aj ?_;have hcv:=Ut ((wr.alloc (.cells #[A! x.1,.string x.2] 203)).alloc (.cells #[.int .u8 x.1,.int .u8<|2+(x.2.size:Int)] 5)).drew (wr.heap.size+1) 2 [x.1,(2:Int)+x.2.size] _ _ _ (mF _ _ _) rfl rfl;have agw:=Y'.below<|(P! _ _).alloc O? (.cells #[.int .u8 x.1,.int .u8<|2+(x.2.size:Int)] 5);have aib:=agw.below (P! _ _).drew;have Q4:K! w1 ((wr.alloc (.cells #[A! x.1,.string x.2] 203)).alloc (.cells #[.int .u8 x.1,.int .u8<|2+(x.2.size:Int)] 5)).drew:=aQ<|ak (ak hbl _) _;obtain⟨T,hT⟩:∃T,strOfNums [x.1,(2:Int)+x.2.size]++x.2=T:=⟨_,rfl⟩;rw[hT]at hxs HX;have hq1:(strOfNums [x.1,(2:Int)+x.2.size]).size=2:=ν _;go_wp2_with fail;refine(NK _ _ acc T _ aib B! Q4.size).mono ?_;rintro e w5 ⟨rfl,agx,hb5⟩;rw[HX.out]at agx;go_wp2;go_roundw
     case rel=>exact⟨k+1,B!,W!,by rw[D4.out];exact agx,Q4.trans hb5,by rw[D4.out,X!];omega,aia⟩
     case measure=>simp[intOf];omega
  .obtain rfl:k=n:=B!
   have HT:Hid (cA os=(jh os k,0)):=A? (by
    rw[HM.out,HN.out,F!];intro hx;obtain⟨j,hj,hjl⟩:=ϋ.1 hx;rw[HLo.out j<|List.mem_range.1 hj]at hjl;cases hjl)
   go_wp2_with fail;refine(AA _ _ _ _ hbr hbl.size).mono ?_;rintro e w5 ⟨rfl,hb5⟩;go_wp2;go_ret2;exact⟨by rw[HT.out];rfl,hb1.trans<|(hbl.trans hb5).mono hb1.size⟩
theorem Zd(B:Nat)(W:D!)(a b c d:Int)(e:Nat×Nat)(h:W.heap[B]? =C! (.cells #[.int .u8 a,.int .u8 b,.int .u8 c,.int .u8 d] 5 e)):
 (convert 64 9<|J! (C!<|B? B 0) 4 4).run E? W=.ok (D?<|strOfNums [a,b,c,d]) W:=
 Ut W B 4 [a,b,c,d] _ _ _ h rfl rfl
section
variable(v:I?)(code id:Int)(os:List bD)(data:ByteArray)(w:D!)(l:List UInt8)(e:Int)(cf b1 b2:Bool)
include v code id os data w l e cf b1 b2
theorem VM
 (hput:∀w,aI w v os->G! E? 211 #[v] w (S? w (.tuple #[D?<|bytesOf l,A! e])))
 (hcf:∀w,G! E? 190 #[A! code] w (T! w<|H? cf))
 (ho1:∀w,G! E? 212 #[A! code] w (T! w<|H? b1))
 (ho2:∀w,G! E? 212 #[A! id] w (T! w<|H? b2))
 (h:aI w v os)(t:b1=H!):
 G! E? 166 #[.agg #[A! code,A! id,v,D? data]] w (S? w (.tuple #[D?<|ByteArray.empty,A! 501])):=by
 subst t;exact bca
theorem VN
 (hput:∀w,aI w v os->G! E? 211 #[v] w (S? w (.tuple #[D?<|bytesOf l,A! e])))
 (hcf:∀w,G! E? 190 #[A! code] w (T! w<|H? cf))
 (ho1:∀w,G! E? 212 #[A! code] w (T! w<|H? b1))
 (ho2:∀w,G! E? 212 #[A! id] w (T! w<|H? b2))
 (h:aI w v os)(t:b1=C?)(o:b2=H!):
 G! E? 166 #[.agg #[A! code,A! id,v,D? data]] w (S? w (.tuple #[D?<|ByteArray.empty,A! 501])):=by
 subst t o;exact bca
theorem Ze
 (hput:∀w,aI w v os->G! E? 211 #[v] w (S? w (.tuple #[D?<|bytesOf l,A! e])))
 (hcf:∀w,G! E? 190 #[A! code] w (T! w<|H? cf))
 (ho1:∀w,G! E? 212 #[A! code] w (T! w<|H? b1))
 (ho2:∀w,G! E? 212 #[A! id] w (T! w<|H? b2))
 (h:aI w v os)(t:b1=C?)(o:b2=C?)(i:e=400\/e=401):
 G! E? 166 #[.agg #[A! code,A! id,v,D? data]] w (S? w (.tuple #[D?<|ByteArray.empty,A! 502])):=by
 subst t o;have n:¬e=0:=B!;exact bca
theorem VO
 (hput:∀w,aI w v os->G! E? 211 #[v] w (S? w (.tuple #[D?<|bytesOf l,A! e])))
 (hcf:∀w,G! E? 190 #[A! code] w (T! w<|H? cf))
 (ho1:∀w,G! E? 212 #[A! code] w (T! w<|H? b1))
 (ho2:∀w,G! E? 212 #[A! id] w (T! w<|H? b2))
 (h:aI w v os)(o:b1=C?)(i:b2=C?)(n:e=0)(s:cf=H!)(r:0<os.length):
 G! E? 166 #[.agg #[A! code,A! id,v,D? data]] w (S? w (.tuple #[D?<|ByteArray.empty,A! 502])):=by
 subst o i;subst n s;obtain⟨t,c,rfl,_,_⟩:=aD.form h;have hbx:K! w<|w.alloc (.cells #[A! code,A! id,J! t os.length c,D? data] 220):=R!;have pre:=h.below hbx;have d0:=j! w #[A! code,A! id,J! t os.length c,D? data] 220 0;have d1:=j! w #[A! code,A! id,J! t os.length c,D? data] 220 1;have d2:=j! w #[A! code,A! id,J! t os.length c,D? data] 220 2;have d3:=j! w #[A! code,A! id,J! t os.length c,D? data] 220 3;exact ncN
theorem VP
 (hput:∀w,aI w v os->G! E? 211 #[v] w (S? w (.tuple #[D?<|bytesOf l,A! e])))
 (hcf:∀w,G! E? 190 #[A! code] w (T! w<|H? cf))
 (ho1:∀w,G! E? 212 #[A! code] w (T! w<|H? b1))
 (ho2:∀w,G! E? 212 #[A! id] w (T! w<|H? b2))
 (h:aI w v os)(o:b1=C?)(i:b2=C?)(n:e=0)(s:cf=C?)(b:UInt8)(t:List UInt8)(r:data.toList=b::t):
 G! E? 166 #[.agg #[A! code,A! id,v,D? data]] w (S? w (.tuple #[D?<|ByteArray.empty,A! 502])):=by
 subst o i;subst n s;exact bca
end
