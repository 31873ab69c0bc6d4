/- Walks and plain laws. -/
import Derived.Test.YtncddkcponjlpaaGreatDoorK46
set_option linter.unusedVariables false
set_option linter.unusedSectionVars false
set_option linter.unusedSimpArgs false
set_option maxHeartbeats 0
set_option maxRecDepth 99999
namespace Go.Proofs.YtncddkcponjlpaaGreatDoor
open Go.RowKit Go.Proofs.Tryz
open Go renaming World→D!,Value→I?,Calls→G!,IntKind→ncy
open Go.RowKit renaming Hid→E!
open Decidable renaming decide→K?
open Option renaming some→C!,none→L?
open Bool renaming true→C?,false→H!
open Go.Proofs.Tryz renaming prog→E?
variable{P:Prop}
section
variable{w w1 w2 W:D!}{G G1 G2:Nat->Tag}{pb a b sb ab:Nat}{va vb:I?}{m m':fD}{ml:Int}{N:Nat}
section
variable(p n:Int)(d:ByteArray)(h:bQ w G pb a b sb va vb m)(he:Env w G ml)(hf:cO N m)(hN:N<=40000000000)(xH:(d.size:Int)<=9223372036854775807)
include p n d h he hf hN xH
theorem afR:
 G! E? 35 #[ptr pb,.agg #[A! 2,A! p,A! n,D? d]] w λe f=>e=.returned (A! (iT m.s n).2)/\bL G w pb a b sb va vb {m with s:=(iT m.s n).1} f:=by
 let⟨g,A,hs,hQ,gQ⟩:=kS h he #[A! 2,A! p,A! n,D? d];let⟨W,E⟩:=F?<|w.alloc (.cells #[A! 2,A! p,A! n,D? d] 34);let⟨Q,O⟩:=F? w.heap.size;rw[E]at hQ g hs;rw[O]at hQ g hs gQ;generalize grow G Q free=G0 at g hs gQ;have vT:=g.step (aB (λ_=>False) G0 W) λ_ _ e=>e;have j:=hs.trans<|aB iK G0 W;have HT:=A?<|Zw n vT.s;have z:=A?<|zD d W.drew;have L:=hQ.k 0;have t1:J? W.drew Q 1 p:=hQ.k 1;have t2:J? W.drew Q 2 n:=hQ.k 2;have t3:L! W.drew Q 3<|D? d:=hQ.k 3;have c2:=vT.blk.k 2;have I:Q<W.drew.heap.size:=hQ.lt;have H:=vT.blk.lt
 have xV:E!<|∀y f,Step (aq [2]) G0 W.drew y f->f.cell? (B? Q 1)=N? p/\f.cell? (B? Q 2)=N? n/\f.cell? (B? Q 3)=C! (D? d)/\f.cell? (B? pb 2)=C! (ptr sb):=A? λy f hh=>by
  exact bcb
 have HP:=A? vT;have HS:=A? j;generalize iT m.s n=R at HT|-;let⟨B,hB⟩:=F?<|xG d
 try rw[hB]at HT
 rw[hB]at z;clear h he hf hN xH g A hs hQ gQ vT j hB;unfold ptr at*
 go_wp2
 refine dW (λf=>J? f Q 1 p/\J? f Q 2 n/\L! f Q 3 (D? d)/\L! f pb 2 (P? sb)) (zcb [6,1,1]) (⟨t1,t2,t3,c2⟩) ?_;refine R? ?_;intro K hK;go_wp2_with(go_at_call 55;apply HT.mono;rintro e w2 ⟨rfl,G2,hq2,hs2⟩);exact md6
theorem adZ:
 G! E? 35 #[ptr pb,.agg #[A! 3,A! p,A! n,D? d]] w λe f=>e=.returned (A! (rM m.s n p).2)/\bL G w pb a b sb va vb {m with s:=(rM m.s n p).1} f:=by
 let⟨g,A,hs,hQ,gQ⟩:=kS h he #[A! 3,A! p,A! n,D? d];let⟨W,E⟩:=F?<|w.alloc (.cells #[A! 3,A! p,A! n,D? d] 34);let⟨Q,O⟩:=F? w.heap.size;rw[E]at hQ g hs;rw[O]at hQ g hs gQ;generalize grow G Q free=G0 at g hs gQ;have vT:=g.step (aB (λ_=>False) G0 W) λ_ _ e=>e;have j:=hs.trans<|aB iK G0 W;have HT:=A?<|Wb n p vT.s (jZ.good hf.a.s) ncO;have z:=A?<|zD d W.drew;have L:=hQ.k 0;have t1:J? W.drew Q 1 p:=hQ.k 1;have t2:J? W.drew Q 2 n:=hQ.k 2;have t3:L! W.drew Q 3<|D? d:=hQ.k 3;have c2:=vT.blk.k 2;have I:Q<W.drew.heap.size:=hQ.lt;have H:=vT.blk.lt
 have xV:E!<|∀y f,Step (aq [2]) G0 W.drew y f->f.cell? (B? Q 1)=N? p/\f.cell? (B? Q 2)=N? n/\f.cell? (B? Q 3)=C! (D? d)/\f.cell? (B? pb 2)=C! (ptr sb):=A? λy f hh=>by
  exact bcb
 have HP:=A? vT;have HS:=A? j;generalize rM m.s n p=R at HT|-;let⟨B,hB⟩:=F?<|xG d
 try rw[hB]at HT
 rw[hB]at z;clear h he hf hN xH g A hs hQ gQ vT j hB;unfold ptr at*
 go_wp2
 refine dW (λf=>J? f Q 1 p/\J? f Q 2 n/\L! f Q 3 (D? d)/\L! f pb 2 (P? sb)) (zcb [8,1,1]) (⟨t1,t2,t3,c2⟩) ?_;refine R? ?_;intro K hK;go_wp2_with(go_at_call 56;apply HT.mono;rintro e w2 ⟨rfl,G2,hq2,hs2⟩);exact md6
end
def TnC(m:aU)(c i:Int)(d:ByteArray):Prop:=∀w G t s,aY w G t s m->G! E? 57 #[ptr s,A! c,A! i,A!<|xG d] w (Left (λo e=>aY o e t s (lX m c i<|xG d).1) (aq t) G w<|A! (lX m c i<|xG d).2)
theorem TnC.off{m:aU}{c i:Int}{d:ByteArray}(h:au m.up c=H!):TnC m c i d:=λw G t s e=>XV c i _ e (by unfold eH;rw[G? h];decide)
section
variable(p n:Int)(d:ByteArray)(h:bQ w G pb a b sb va vb m)(he:Env w G ml)(hf:cO N m)(hN:N<=40000000000)(xH:(d.size:Int)<=9223372036854775807)
include p n d h he hf hN xH
theorem ad0(I:TnC m.s n p d):
 G! E? 35 #[ptr pb,.agg #[A! 4,A! p,A! n,D? d]] w λe f=>e=.returned (A! (lX m.s n p<|xG d).2)/\bL G w pb a b sb va vb {m with s:=(lX m.s n p<|xG d).1} f:=by
 let⟨g,Y,hs,hQ,gQ⟩:=kS h he #[A! 4,A! p,A! n,D? d];let⟨W,H⟩:=F?<|w.alloc (.cells #[A! 4,A! p,A! n,D? d] 34);let⟨Q,M⟩:=F? w.heap.size;rw[H]at hQ g hs;rw[M]at hQ g hs gQ;generalize grow G Q free=G0 at g hs gQ;have vT:=g.step (aB (λ_=>False) G0 W) λ_ _ e=>e;have D:=hs.trans<|aB iK G0 W;have y:=A?<|I _ _ _ _ vT.s;have A:=A?<|zD d W.drew;have V:=hQ.k 0;have t1:J? W.drew Q 1 p:=hQ.k 1;have t2:J? W.drew Q 2 n:=hQ.k 2;have t3:L! W.drew Q 3<|D? d:=hQ.k 3;have c2:=vT.blk.k 2
 have F:E!<|∀E f,Step (aq [2]) G0 W.drew E f->f.cell? (B? Q 1)=N? p/\f.cell? (B? Q 2)=N? n/\f.cell? (B? Q 3)=C! (D? d)/\f.cell? (B? pb 2)=C! (ptr sb):=A? λE f hh=>by
  exact bcb
 generalize lX m.s n p (xG d)=R at y|-;let⟨B,hB⟩:=F?<|xG d
 try rw[hB]at y
 rw[hB]at A;unfold ptr at*
 go_wp2
 refine dW (λf=>J? f Q 1 p/\J? f Q 2 n/\L! f Q 3 (D? d)/\L! f pb 2 (P? sb)) (zcb [10,2,1]) (⟨t1,t2,t3,c2⟩) ?_;refine R? ?_;intro K j;go_wp2_with(go_at_call 58;refine M! A λX O=>?_;rw[O]);refine O! j ⟨t1,t2,t3,c2⟩ ?_;refine R? ?_;intro K j;go_wp2_with(go_at_call 57;apply y.mono;rintro e w2 ⟨rfl,G2,L,z⟩);apply O! j (F _ _ z);have HF:=A? (⟨G2,vT.Qp L z,D.trans<|z.mono λu C=>.inr (.inr (.inl C))⟩:bL G w pb a b sb va vb {m with s:=R.1} w2);refine T? ?_;go_wp2;exact bas
theorem ad1:
 G! E? 35 #[ptr pb,.agg #[A! 5,A! p,A! n,D? d]] w λe f=>e=.returned (A! (vl m.s n).2)/\bL G w pb a b sb va vb {m with s:=(vl m.s n).1} f:=by
 let⟨g,A,hs,hQ,gQ⟩:=kS h he #[A! 5,A! p,A! n,D? d];let⟨W,E⟩:=F?<|w.alloc (.cells #[A! 5,A! p,A! n,D? d] 34);let⟨Q,O⟩:=F? w.heap.size;rw[E]at hQ g hs;rw[O]at hQ g hs gQ;generalize grow G Q free=G0 at g hs gQ;have vT:=g.step (aB (λ_=>False) G0 W) λ_ _ e=>e;have j:=hs.trans<|aB iK G0 W;have HT:=A?<|V' n vT.s;have z:=A?<|zD d W.drew;have L:=hQ.k 0;have t1:J? W.drew Q 1 p:=hQ.k 1;have t2:J? W.drew Q 2 n:=hQ.k 2;have t3:L! W.drew Q 3<|D? d:=hQ.k 3;have c2:=vT.blk.k 2;have I:Q<W.drew.heap.size:=hQ.lt;have H:=vT.blk.lt
 have xV:E!<|∀y f,Step (aq [2]) G0 W.drew y f->f.cell? (B? Q 1)=N? p/\f.cell? (B? Q 2)=N? n/\f.cell? (B? Q 3)=C! (D? d)/\f.cell? (B? pb 2)=C! (ptr sb):=A? λy f hh=>by
  exact bcb
 have HP:=A? vT;have HS:=A? j;generalize vl m.s n=R at HT|-;let⟨B,hB⟩:=F?<|xG d
 try rw[hB]at HT
 rw[hB]at z;clear h he hf hN xH g A hs hQ gQ vT j hB;unfold ptr at*
 go_wp2
 refine dW (λf=>J? f Q 1 p/\J? f Q 2 n/\L! f Q 3 (D? d)/\L! f pb 2 (P? sb)) (zcb [6,1,1]) (⟨t1,t2,t3,c2⟩) ?_;refine R? ?_;intro K hK;go_wp2_with(go_at_call 59;apply HT.mono;rintro e w2 ⟨rfl,G2,hq2,hs2⟩);exact md6
theorem ad2:
 G! E? 35 #[ptr pb,.agg #[A! 7,A! p,A! n,D? d]] w λe f=>e=.returned (A! (kB m.s n p d).2)/\bL G w pb a b sb va vb {m with s:=(kB m.s n p d).1} f:=by
 let⟨g,A,hs,hQ,gQ⟩:=kS h he #[A! 7,A! p,A! n,D? d];let⟨W,E⟩:=F?<|w.alloc (.cells #[A! 7,A! p,A! n,D? d] 34);let⟨Q,O⟩:=F? w.heap.size;rw[E]at hQ g hs;rw[O]at hQ g hs gQ;generalize grow G Q free=G0 at g hs gQ;have vT:=g.step (aB (λ_=>False) G0 W) λ_ _ e=>e;have j:=hs.trans<|aB iK G0 W;have HT:=A?<|Kw n p d vT.s (jZ.good hf.a.s) (by have h9:(fP m.s n p).pieces.length<=N:=(hf.a.s.pipe n p).pc;omega) ncO xH;have z:=A?<|zD d W.drew;have L:=hQ.k 0;have t1:J? W.drew Q 1 p:=hQ.k 1;have t2:J? W.drew Q 2 n:=hQ.k 2;have t3:L! W.drew Q 3<|D? d:=hQ.k 3;have c2:=vT.blk.k 2;have I:Q<W.drew.heap.size:=hQ.lt;have H:=vT.blk.lt
 have xV:E!<|∀y f,Step (aq [2]) G0 W.drew y f->f.cell? (B? Q 1)=N? p/\f.cell? (B? Q 2)=N? n/\f.cell? (B? Q 3)=C! (D? d)/\f.cell? (B? pb 2)=C! (ptr sb):=A? λy f hh=>by
  exact bcb
 have HP:=A? vT;have HS:=A? j;generalize kB m.s n p d=R at HT|-;let⟨B,hB⟩:=F?<|xG d
 try rw[hB]at HT
 rw[hB]at z;clear h he hf hN xH g A hs hQ gQ vT j hB;unfold ptr at*
 go_wp2
 refine dW (λf=>J? f Q 1 p/\J? f Q 2 n/\L! f Q 3 (D? d)/\L! f pb 2 (P? sb)) (zcb [10,1,1]) (⟨t1,t2,t3,c2⟩) ?_;refine R? ?_;intro K hK;go_wp2_with(go_at_call 60;apply HT.mono;rintro e w2 ⟨rfl,G2,hq2,hs2⟩);exact md6
end
end
