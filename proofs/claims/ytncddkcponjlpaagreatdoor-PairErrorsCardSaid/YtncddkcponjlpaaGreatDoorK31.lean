/- Walks and plain laws. -/
import Derived.Test.YtncddkcponjlpaaGreatDoorK30
set_option linter.unusedVariables false
set_option linter.unusedSimpArgs false
set_option maxHeartbeats 0
set_option maxRecDepth 99999
namespace Go.Proofs.YtncddkcponjlpaaGreatDoor
open Go.RowKit Go.Proofs.Tryz
open Go renaming World→D!,Value→I?,Calls→G!,IntKind→ncy
open Go.RowKit renaming Hid→E!
open Decidable renaming decide→K?
open Option renaming some→C!,none→L?
open Bool renaming true→C?,false→H!
open Go.Proofs.Tryz renaming prog→E?
variable{P:Prop}
variable{w w1 w2:D!}{G G1 G2:Nat->Tag}{n ml id:Int}{b sb N r:Nat}{x:eY}{z z':PS}{m:aF}
theorem qI{i:Nat}{v:I?}{R:List Nat}(t:ky Ax w i v R):∃a c,v=J! a R.length c/\(R=[]\/∃e d,a=C! (B? e d)/\e<w.heap.size/\i<=e/\∀j (l:j<R.length),w.cell? (B? e<|d+j)=C! (ptr R[j])):=by
 by_cases s:R=[]
 .obtain⟨a,c,rfl,-,-⟩:=t.1.form;exact⟨a,c,rfl,.inl s⟩
 .obtain⟨g,o,c,rfl,-,-,f,u⟩:=t.1.cell s;refine⟨_,c,rfl,.inr ⟨g,o,rfl,f,(t.2 g rfl).1,λj l=>?_⟩⟩;have:=u j l 0 I!;rw[show o+j*Ax.size+0=o+j from by show o+j*1+0=_;omega]at this;exact this
def zw(w:D!)(p:aF)(e:Ending)(t:D!):Prop:=∃v,e=.returned v/\ky mU t w.heap.size v (jP p)/\K! w t
theorem zx{e:Type}(q:e->Bool)(R:List e)(j:Nat)(t:j<R.length):(R.take<|j+1).filter q=if q R[j]then(R.take j).filter q++[R[j]]else(R.take j).filter q:=by
 rw[u! t,baR];by_cases h:q R[j]=C?
 .rw[G? h];simp[h]
 .rw[F! h];simp[h]
theorem Mo(h:cg w G n b x m)(A:ct N r m)(O:m.links.length<=8)(a1:N<=40000000000):
 G! E? 23 #[ptr b] w (zw w m):=by
 have q:=A?<|vR h A O a1
 have L:E!<|∀k∈dR m,∃y,aO w (x.f k) 107 (bS y<|lk m k)/\(lk m k).id=k:=A? λk a3=>by
  have F:=nW a3;let⟨y,l⟩:=h.mG F;exact⟨y,l.blk,(A.link F).1.id⟩
 have H:(dR m).length<=8:=by rw[j8];exact O
 unfold zw jP;unfold wU at q;generalize dR m=R at q L H|-;clear h A O;unfold ptr at*
 go_in
 go_wp2_with(go_at_call 47;apply q.mono;rintro e w2 ⟨v,rfl,Y,E⟩;obtain⟨a,ad,rfl,V⟩:=qI Y;rw[g!]);have Q:=A?<|V.imp (λe=>List.map_eq_nil_iff.1 e) id;have D:=A? E;have I:=E.size;clear V Y E q;let⟨u,S⟩:=F? R.length;rw[S]at H|-;have HN:=A? S;clear S;go_wp2;go_loopw[3,11] (λv i wr=>∃j:Nat,j<=u/\i=A! j/\ky mU wr w2.heap.size v ((R.take j).filter<|λid=>(lk m id).dF)/\K! w2 wr) (λ_ i _=>u-(intOf i).toNat)
 case atStart=>exact⟨0,S! _,rfl,ky.nil _ _ _,P! _ _⟩
 case round=>
  obtain⟨j,am,rfl,t,o⟩:=hrel;by_cases tN:j<u
  .rcases Q with e|⟨ac,an,rfl,al,-,hcell⟩
   .have:=HN.out;rw[e]at this;simp at this;omega
   have uL:j<R.length:=mcJ;have X:=aw o<|hcell j mdv;rw[bb2]at X;let⟨y,l,B⟩:=L _<|l! uL;have g:aO wr (x.f R[j]) 107<|bS y<|lk m R[j]:=(o.block _<|Z! l.lt I).trans<|(D.block _ l.lt).trans l;have a4:=g.lt;have c:=A?<|zx (λid=>(lk m id).dF) R j uL
   have Z:wr.cell? (B? (x.f R[j]) 2)=N? (R[j]):=by
    have:J? wr (x.f R[j]) 2<|(lk m R[j]).id:=g.cell 2;rw[this,B]
   have d:=A?<|kW g;generalize R[j]=K at X d c Z a4
   have J:E! ((((R.take j).filter (λid=>(lk m id).dF)).length+1)*mU.bytes<=140737488355328):=A? (by
    have ae:=ϝ (λid=>(lk m id).dF)<|R.take j;have ag:(R.take j).length<=8:=med;show(_+1)*8<=_;omega)
   clear hcell l B g;unfold ptr at*
   cases f:(lk m K).dF with
   |true=>
    rw[f]at d c;clear f
    go_wp2_with(first
     |(go_at_call 48;refine M! d λaa a0=>?_)
     |(at_builtin;refine dz mU rfl _ _ rfl _ ((R.take j).filter (λid=>(lk m id).dF)) K _ t.1 (λi s=>(t.2 i s).2) rfl _ rfl rfl J I! λao ap a5 W a6=>?_))
    have ab:=t.app a5 W a6 o.size;have a2:=o.trans<|W.below o.size λi s=>(t.2 i s).1;go_roundw
    case rel=>exact⟨j+1,B!,W!,by rw[c.out,G? trivial];exact ab,a2⟩
    case measure=>simp[intOf];omega
   |false=>
    rw[f]at d c;clear f;go_wp2_with(go_at_call 48;refine M! d λaa a0=>?_);go_roundw
    case rel=>exact⟨j+1,B!,W!,by rw[c.out,F! N!];exact t,o⟩
    case measure=>simp[intOf];omega
  .obtain rfl:j=u:=B!;obtain⟨a8,a9,rfl,-,-⟩:=t.1.form;have C:R.take j=R:=by rw[<-HN.out,v!]
   have M:ky mU wr w.heap.size (J! a8 ((R.take j).filter<|λid=>(lk m id).dF).length a9)<|R.filter<|λid=>(lk m id).dF:=⟨by rw[C]at t|-;exact t.1,λi s=>⟨Z? I (t.2 i s).1,(t.2 i s).2⟩⟩;have a7:=A? M;clear C M t;go_wp2;go_ret;exact⟨_,rfl,a7,D.trans<|o.mono I⟩
theorem Tx(t:List bD):(gu 2 t= -1/\t.find? (λo=>K? (o.1=2))=L?)\/∃j,∃h:j<t.length,gu 2 t=(j:Int)/\t.find? (λo=>K? (o.1=2))=C! t[j]:=by
 unfold gu;cases e:t.findIdx? (λo=>K? (o.1=2))with
 |none=>
  refine .inl ⟨rfl,?_⟩;rw[bcC]at e;rw[List.find?_eq_none];intro o u;have:=e o u;simpa using this
 |some j=>
  rw[bcf]at e;obtain⟨s,l,d⟩:=e;refine .inr ⟨j,s,rfl,?_⟩;rw[List.find?_eq_some_iff_getElem];exact⟨l,j,s,rfl,λi c=>by have:=d i c;simpa using this⟩
def wV(x:eY)(o:Option Int):Value:=match o with|some k=>ptr (x.f k)|none=>.pointer L?
theorem Bw{v:I?}{l:List bD}(h:cg w G n b x m)(H:aI w v l)(L:∀o∈l,o.2.size<=4611686018427387904):
 G! E? 242 #[ptr b,v] w λe a6=>e=.returned (wV x<|nC m l)/\Below w.heap.size w a6:=by
 have F:=h.blk.k 29;have a9:=h.blk.lt;have d:=A?<|FZ 2 v l w H;have Z:=A?<|λ(w1:D!) (B:Below w.heap.size w w1) (k:Int)=>nQ (h.lm.below B) underlying90 underlying3 π k;unfold nC;rcases Tx l with⟨u,y⟩|⟨j,A,u,y⟩
 .rw[y];rw[u]at d;clear h H L u y;unfold wV ptr;go_in;go_wp2_with(go_at_call 272;apply d.mono;rintro e w1 ⟨rfl,g⟩);go_ret;exact⟨rfl,g⟩
 .rw[y];rw[u]at d;have a2:=L _<|l! A;rcases H with⟨a1,-⟩|⟨a0,o,c,rfl,a3,K,ab,hcell⟩
  .subst a1;simp at A
  have S:w.cell? ⟨a0,o+j*2+1,L?⟩=C! (D? l[j].2):=by
   have:=hcell j A 1 I!;exact this
  obtain⟨D,W⟩:=F?<|l[j].2;dsimp only;rw[W]at a2 S|-;have J:(l.length:Int)<=9223372036854775807:=by unfold maxLen at K;omega
  obtain⟨a8,Y⟩:=F? l.length;rw[Y]at A d J|-
  have E:E! (wV x (if au m.links (cF D.data.toList)then C! (cF D.data.toList)else L?)=if au m.links (cF D.data.toList)then ptr (x.f (cF D.data.toList))else .pointer L?):=A? (by
   cases a4:au m.links (cF D.data.toList)<;>rfl)
  rw[E.out];obtain⟨C,R⟩:=F?<|au m.links<|cF D.data.toList;rw[R];have Q:=A? R;clear R;clear h L u y W hcell a3 K E Y;unfold ptr;go_in;go_wp2_with(go_at_call 272;apply d.mono;rintro e w1 ⟨rfl,g⟩;have u:=aw g S;have aa:=aw g F);have I:=A? g;clear g S F d;go_loopw[6,18] (λa7 i wr=>∃k:Nat,k<=D.size/\i=.int .i64 k/\a7=.int .i64 (cF<|D.data.toList.take k)/\wr=w1) (λ_ i _=>D.size-(intOf i).toNat)
  case atStart=>exact⟨0,S! _,rfl,rfl,rfl⟩
  case round=>
   obtain⟨k,a4,rfl,rfl,rfl⟩:=hrel;obtain⟨V,f⟩:=F?<|cF<|D.data.toList.take k;by_cases a5:k<D.size
   .rw[f];have E:=A? f;clear f;go_wp2;go_roundw
    case rel=>
     refine⟨k+1,B!,W!,?_,trivial⟩;have B:=D[k].toNat_lt;rw[D1 D k a5,E.out,bby (D[k].toNat:Int) ⟨B!,B!⟩];rfl
    case measure=>simp[intOf];omega
   .obtain rfl:k=D.size:=B!;have X:cF D.data.toList=V:=by rw[<-f,u? N!]
    rw[f];have O:=Z _ I V;unfold ptr at O;have M:=A? X;rw[show au m.links V=C by rw[<-M.out];exact Q]at O;clear f X;cases C with
    |true=>
     rw[G? rfl]at O;go_wp2;go_ret;exact⟨by rw[M.out];rfl,I⟩
    |false=>
     rw[F! I!]at O;go_wp2;go_ret;exact⟨rfl,I⟩
