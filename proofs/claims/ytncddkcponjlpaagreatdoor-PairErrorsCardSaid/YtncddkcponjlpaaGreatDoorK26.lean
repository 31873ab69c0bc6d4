/- Walks and plain laws. -/
import Derived.Test.YtncddkcponjlpaaGreatDoorK22
set_option linter.unusedVariables false
set_option linter.unusedSimpArgs false
set_option maxHeartbeats 0
set_option maxRecDepth 99999
namespace Go.Proofs.YtncddkcponjlpaaGreatDoor
open Go.RowKit Go.Proofs.Tryz
open Go renaming World→D!,Value→I?,Calls→G!,IntKind→ncy
open Go.RowKit renaming Hid→E!
open Decidable renaming decide→K?
open Option renaming some→C!,none→L?
open Bool renaming true→C?,false→H!
open Go.Proofs.Tryz renaming prog→E?
variable{P:Prop}
def jx(w:D!)(b:Nat)(m:bM):Prop:=aO w b 304<|sS m
structure zi(p:bM):Prop where
 l0:0<=p.left
 l1:p.left<=10
 pos:p.failed=H!->1<=p.left
 e:p.expect.size<=64
 c:p.bZ.size<=255
 s:p.secret.size<=64
 n:p.name.size<=32
theorem J3(s:ByteArray)(w:D!):G! E? 296 #[D? s] w (T! w<|H?<|eO s):=by
 by_cases h:1<=s.size
 .have HC:E!<|eO s=K? ((s.size:Int)<=64):=A? (by unfold eO;simp[h];omega);have e:K? ((s.size:Int)≥1)=true:=b! B!;exact bak
 .have HC:E!<|eO s=false:=A? (by unfold eO;simp[h]);have e:K? ((1:Int)<=(s.size:Int))=false:=W? B!;exact bak
theorem nU{b:Nat}{m:bM}{w:D!}(h:jx w b m):G! E? 168 #[ptr b] w (T! w<|H? m.proved):=by
 have n:=h.k 4;unfold ptr;exact d?
theorem I7(w:D!):G! E? 168 #[.pointer L?] w (T! w<|H? H!):=by
 exact d?
section
variable{b:Nat}{m:bM}{w:D!}(h:jx w b m)
include h
theorem CQ:G! E? 197 #[ptr b] w (T! w<|H? m.taken):=by
 have n:=h.k 7;unfold ptr;exact d?
theorem AQ:G! E? 196 #[ptr b] w (T! w<|H? m.failed):=by
 have n:=h.k 8;unfold ptr;exact d?
theorem J4:G! E? 215 #[ptr b] w (S? w (.agg #[A! 1,A! 1,D? m.bZ,D? m.name])):=by
 have n:=h.k 1;have l:=h.k 5;have d:=h.lt;unfold ptr;go_wp2;go_region;go_wp2;exact V? (v:=.agg #[A! 1,A! 1,D? m.bZ,D? m.name]) (by simp[results,results215,go_sem]) rfl ⟨rfl,ϕ⟩
end
theorem J5(o i t:ByteArray)(n:Int)(w:D!)(g:o.size<=32)(c:eO i=C?)(d:eO t=C?)(u:1<=n/\n<=10):
 G! E? 265 #[D? o,D? i,D? t,A! n] w λe l=>e=.returned (.tuple #[ptr w.heap.size,A! 0])/\jx l w.heap.size ⟨t,⟨#[]⟩,n,H!,H!,o,i,H!,H!⟩/\K! w l:=by
 have s:=λw=>J3 i w;have r:=λw=>J3 t w;rw[c]at s;rw[d]at r;have m:K? ((32:Int)<(o.size:Int))=false:=W? B!;obtain⟨y,b⟩:=u;go_in;go_wp2_with fail;refine d! (s _) ?_;go_wp2_with fail;refine d! (r _) ?_;go_wp2;go_ret2;exact⟨rfl,c! _ _,R!⟩
def tu(b:Nat)(m:bM)(c:cT×Int)(w:D!)(e:Ending)(t:D!):Prop:=e=.returned (ic c)/\jx t b m/\Only (· =b) w t
theorem En{b:Nat}{m:bM}{w:D!}(c:ByteArray)(h:jx w b m)(a0:1<=c.size/\c.size<=255)(K:m.started=H!)(Y:m.failed=H!):
 G! E? 266 #[ptr b,D? c] w (tu b {m with started:=C?,bZ:=c} (jj {m with started:=C?,bZ:=c},0) w):=by
 have J:=h.k 1;have L:=h.k 3;have D:=h.k 8;have Q:=h.frozen 1;have Z:=h.frozen 3;rw[K]at L;rw[Y]at D;have a4:=h.lt;have a1:K? ((c.size:Int)<1)=false:=W? B!;have a2:K? ((255:Int)<(c.size:Int))=false:=W? B!;obtain⟨M,z⟩:∃M:bM,{m with started:=C?,bZ:=c}=M:=⟨_,rfl⟩
 have B:∀w1,jx w1 b m->jx ((w1.setCell (B? b 3)<|H? C?).setCell (B? b 1)<|D? c) b M:=λw1 C=>by
  rw[<-z];exact(aO.set C 3 (H? C?) (cs':=sS {m with started:=C?}) rfl).set 1 (D? c) rfl
 rw[z];have I:=A? B;unfold ptr;go_in;go_wp2_with fail;let⟨g,y⟩:=F?<|(w.setCell (B? b 3)<|H? C?).setCell (B? b 1)<|D? c;have E:=I w h;have G:Only (· =b) w g:=by rw[<-y];exact(ay w b 3<|H? C?).trans<|ay _ b 1<|D? c
 have hz0:g.heap.size=w.heap.size:=by rw[<-y];simp
 rw[y]at E|-;have V:aO (g.alloc (.cells xad 104)) w.heap.size 104 xad:=na7;have A:=aO.below E<|ak U? (.cells xad 104);refine M! (J4 A) λw1 j=>?_;have f:=V.below j;have F:=aO.below A j;have W:=(G.alloc _).then j;have N:=f.k 0;have S:=f.k 1;have R:=f.k 2;have H:=f.k 3;have a5:=f.frozen 0;have a6:=f.frozen 1;have a7:=f.frozen 2;have a8:=f.frozen 3;have O:∀n l d u:I?,Only (· =w.heap.size) w1<|(((w1.setCell (B? w.heap.size 0) n).setCell (B? w.heap.size 1) l).setCell (B? w.heap.size 2) d).setCell (B? w.heap.size 3) u:=λn l d u=>((((Only.refl (λk=>k=w.heap.size) w1).set (.inl rfl) n).set (.inl rfl) l).set (.inl rfl) d).set (.inl rfl) u;have X:E! (∀n l d u:I?,jx ((((w1.setCell (B? w.heap.size 0) n).setCell (B? w.heap.size 1) l).setCell (B? w.heap.size 2) d).setCell (B? w.heap.size 3) u) b M/\Only (· =b) w ((((w1.setCell (B? w.heap.size 0) n).setCell (B? w.heap.size 1) l).setCell (B? w.heap.size 2) d).setCell (B? w.heap.size 3) u)):=A? λn l d u=>⟨aO.only F (O n l d u) B!,W.and (O n l d u)<|λi a3=>.inr B!⟩;go_wp2;exact V? (v:=ic (jj M,0)) (by simp[results,results266,go_sem,ic,aK,jj,N,S,R,H]) rfl ⟨rfl,X _ _ _ _⟩
theorem J6(t:Int)(o e:ByteArray)(w:D!)(r:0<=t/\t<=255)(d:o.size<=255)(c:e.size<=255):
 G! E? 268 #[A! t,D? o,D? e] w (S? w<|D?<|gU t o e):=by
 have l:=UF;have f:∀a:Int,(strOfNums [a]).size=1:=λa=>ν _
 have i:E! ((strOfNums [t]++o++e).data.toList=aE t::(o.data.toList++e.data.toList)):=A? (by
  rw[m8];simp only[i?,y!];rw[cZ t B! B!];rw[show e=bytesOf e.data.toList from(ox e).symm,l7];simp[bytesOf])
 have n:E! ((strOfNums [t]++o++e).size<=1000000):=A? (by
  rw[<-bK,i.out];simp only[V!,X!,bK];omega)
 obtain⟨u,m⟩:=r;go_in;go_wp2_with fail;refine M! (LV _ _ n) λw1 s=>?_;rw[i.out];go_wp2;go_ret;exact⟨rfl,R!.trans<|s.mono N!⟩
section
variable{b:Nat}{m:bM}{w:D!}(h:jx w b m)
include h
theorem Sj(f:m.started=H!\/m.proved=C?\/m.failed=C?):
 G! E? 169 #[ptr b] w (tu b m (gM,1601) w):=by
 have l:=h.k 3;have d:=h.k 4;have u:=h.k 8;have E:=h.lt;have n:=A? f;let⟨x,g⟩:=F? m.started;let⟨y,k⟩:=F? m.proved;let⟨z,j⟩:=F? m.failed;rw[g]at l n;rw[k]at d n;rw[j]at u n;unfold ptr;cases x<;>cases y<;>cases z
 all_goals first
  |(exfalso;have:=n.out;simp at this;done)
  |(go_in
    go_wp2
    exact V? (v:=ic (gM,1601)) nbR rfl ⟨rfl,aO.below h R!,(Only.refl _ _).alloc _⟩)
theorem LW(g:m.started=C?)(y:m.proved=H!)(j:m.failed=H!)(E:m.left=1):
 G! E? 169 #[ptr b] w (tu b {m with left:=0,failed:=C?} (gM,1601) w):=by
 have d:=h.k 3;have u:=h.k 4;have f:=h.k 8;have l:=h.k 2;have A:=h.frozen 2;have f8:=h.frozen 8;have O:=h.lt;rw[g]at d;rw[y]at u;rw[j]at f;rw[E]at l;have n:=A?<|(h.set 2 (A! 0) (cs':=sS {m with left:=0}) rfl).set 8 (H? C?) (cs':=sS {m with left:=0,failed:=C?}) rfl;obtain⟨M,z⟩:∃M:bM,{m with left:=0,failed:=C?}=M:=⟨_,rfl⟩;rw[z]at n|-;unfold ptr;go_wp2;exact V? (v:=ic (gM,1601)) nbR rfl ⟨rfl,aO.below n R!,(((Only.refl (λk=>k=b) w).set (.inl rfl) _).set (.inl rfl) _).alloc _⟩
theorem LX(W:m.started=C?)(Y:m.proved=H!)(B:m.failed=H!)(J:2<=m.left)(Q:m.left<=10):
 G! E? 169 #[ptr b] w (tu b {m with left:=m.left-1} (jj m,0) w):=by
 have D:=h.k 3;have C:=h.k 4;have F:=h.k 8;have H:=h.k 2;have a3:=h.frozen 2;have a5:=h.lt;rw[W]at D;rw[Y]at C;rw[B]at F;have g:jx (w.setCell (B? b 2)<|A!<|m.left-1) b {m with left:=m.left-1}:=h.set 2 (A!<|m.left-1) rfl;have G:J? (w.setCell (B? b 2)<|A!<|m.left-1) b 2<|m.left-1:=g.k 2;have q:(m.left-1==0)=false:=Q?.2 B!;have y:=A? g;obtain⟨M,j⟩:∃M:bM,{m with left:=m.left-1}=M:=⟨_,rfl⟩;have a1:jj m=jj M:=by rw[<-j];rfl
 rw[j]at y;rw[a1,j];generalize m.left=L at H G q y J Q;unfold ptr;go_in;go_wp2_with fail;let⟨k,z⟩:=F?<|w.setCell (B? b 2)<|A!<|L-1;have g:=y.out;have K:Only (· =b) w k:=by rw[<-z];exact ay w b 2 _
 have hz0:k.heap.size=w.heap.size:=by rw[<-z];simp
 rw[z]at g|-;have Z:aO (k.alloc (.cells xad 104)) w.heap.size 104 xad:=na7;have A:=aO.below g<|ak U? (.cells xad 104);refine M! (J4 A) λw1 E=>?_;have f:=Z.below E;have V:=aO.below A E;have X:=(K.alloc _).then E;have I:=f.k 0;have N:=f.k 1;have S:=f.k 2;have R:=f.k 3;have a6:=f.frozen 0;have a7:=f.frozen 1;have a8:=f.frozen 2;have a9:=f.frozen 3;have O:∀n l d u:I?,Only (· =w.heap.size) w1<|(((w1.setCell (B? w.heap.size 0) n).setCell (B? w.heap.size 1) l).setCell (B? w.heap.size 2) d).setCell (B? w.heap.size 3) u:=λn l d u=>((((Only.refl (λa0=>a0=w.heap.size) w1).set (.inl rfl) n).set (.inl rfl) l).set (.inl rfl) d).set (.inl rfl) u;have a2:E! (∀n l d u:I?,jx ((((w1.setCell (B? w.heap.size 0) n).setCell (B? w.heap.size 1) l).setCell (B? w.heap.size 2) d).setCell (B? w.heap.size 3) u) b M/\Only (· =b) w ((((w1.setCell (B? w.heap.size 0) n).setCell (B? w.heap.size 1) l).setCell (B? w.heap.size 2) d).setCell (B? w.heap.size 3) u)):=A? λn l d u=>⟨aO.only V (O n l d u) B!,X.and (O n l d u)<|λi a4=>.inr B!⟩;go_wp2;exact V? (v:=ic (jj M,0)) (by simp[results,results169,go_sem,ic,aK,jj,I,N,S,R]) rfl ⟨rfl,a2 _ _ _ _⟩
theorem OP(r:zi m):G! E? 169 #[ptr b] w (tu b (gj m).1 (gj m).2 w):=by
 unfold gj;by_cases t:m.started=H!\/m.proved=C?\/m.failed=C?
 .rw[G? t];exact Sj h t
 .rw[F! t]
  have n:m.started=true:=by
   cases e:m.started
   .exact absurd (.inl e) t
   .rfl
  have s:m.proved=false:=by
   cases e:m.proved
   .rfl
   .exact absurd (.inr (.inl e)) t
  have o:m.failed=false:=by
   cases e:m.failed
   .rfl
   .exact absurd (.inr (.inr e)) t
  have:=r.pos o;have:=r.l1;by_cases i:m.left=1
  .rw[G? i];exact LW h n s o i
  .rw[F! i];exact LX h n s o B! B!
end
def qD(b:Nat)(m:bM)(o:List cT)(n:Int)(w:D!)(e:Ending)(t:D!):Prop:=∃v,e=.returned (.tuple #[v,A! n])/\bq kL t w.heap.size v o/\jx t b m/\Only (· =b) w t
theorem OQ{b y:Nat}{m:bM}{c:cT}{w:D!}(h:jx w b m)(M:zi m)(N:aO w y 104 (aK c).toArray)(hi:0<=c.id/\c.id<=255)(F:c.value.size<=255):
 G! E? 232 #[.pointer<|C!<|B? b 5,ptr y] w λe u=>∃v,e=.returned v/\bq kL u w.heap.size v [⟨2,c.id,gU c.id m.secret c.value,m.name⟩]/\K! w u:=by
 have A:=h.k 5;have O:=h.k 6;have j:=N.k 1;have I:=N.k 2;have hs:=M.s;have R:=λw=>J6 c.id m.secret c.value w hi B! F;generalize gU c.id m.secret c.value=D at R|-;have E:=A? R;generalize c.id=g at j E hi|-;unfold ptr;go_wp2;refine dW (λu=>L! u b 5 (D? m.name)/\L! u b 6 (D? m.secret)/\J? u y 1 g/\L! u y 2 (D? c.value)) (zca [0,2,4,6,8,10,12,14,16,18,20,22,24,26,28,30,34,36,38,40,33,42,45,46]) (⟨A,O,j,I⟩) ?_;refine R? ?_;intro K z;go_wp2_with(go_at_call 268;refine M! (E _) λw1 n=>?_);have H:=af (W:=w.drew) n A;have L:=af (W:=w.drew) n O;have j1:=af (W:=w.drew) n j;have j2:=af (W:=w.drew) n I;refine O! z ⟨H,L,j1,j2⟩ ?_;refine R? ?_;intro K z;go_wp2_with fail;have f:K! w1<|w1.alloc (.cells #[A! 2,A! g,D? D,D? m.name] 104):=R!;refine O! z ⟨af f H,af f L,af f j1,af f j2⟩ ?_;refine T? ?_;have hB:=((P! w.heap.size w).drew.trans n).trans<|f.mono n.size;have C:bq kL (w1.alloc (.cells #[A! 2,A! g,D? D,D? m.name] 104)) w.heap.size (J! (C!<|B? w1.heap.size 0) 1 1) [⟨2,g,D,m.name⟩]:=bq.one kL w1 ⟨2,g,D,m.name⟩ w.heap.size n.size;go_wp2;go_ret;exact⟨_,rfl,C,hB⟩
