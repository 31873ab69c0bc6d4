/- Walks and plain laws. -/
import Derived.Test.YtncddkcponjlpaaGreatDoorK50
import Derived.Test.YtncddkcponjlpaaGreatDoorK51
set_option linter.unusedVariables false
set_option linter.unusedSimpArgs false
set_option maxHeartbeats 0
set_option maxRecDepth 99999
namespace Go.Proofs.YtncddkcponjlpaaGreatDoor
open Go.RowKit Go.Proofs.Tryz
open Go renaming World→D!,Value→I?,Calls→G!,IntKind→ncy
open Go.RowKit renaming Hid→E!
open Decidable renaming decide→K?
open Option renaming some→C!,none→L?
open Bool renaming true→C?,false→H!
open Go.Proofs.Tryz renaming prog→E?
variable{P:Prop}
def errCells(n:Int)(s:ByteArray):Array Value:= #[A! 2,A! 0,A! n,D? ⟨#[]⟩,A! 3,A! 0,A! n,D? ⟨#[]⟩,A! 4,A! 0,A! n,D? ⟨#[97]⟩,A! 7,A! 0,A! n,D? ⟨#[97]⟩,A! 5,A! 0,A!<|-1,D? ⟨#[]⟩,A! 1,A! 0,A! 0,D? ⟨#[]⟩,A! 1,A! 0,A! 0,D? s,A! 1,A! 2,A! 0,D? ⟨#[120]⟩,A! 8,A! 0,A!<|-1,D? ⟨#[]⟩,A! 8,A! 0,A! 1048577,D? ⟨#[]⟩,A! 6,A! 0,A!<|-1,D? ⟨#[]⟩,A! 0,A! 0,A! 4097,D? ⟨#[]⟩,A!<|-1,A! 0,A! 0,D? ⟨#[]⟩,A! 9,A! 0,A! 0,D? ⟨#[]⟩]
def errWs:List Int:=[2502,2502,2502,2502,2500,2602,2602,2700,2600,2600,2700,2700,2700,2700]
theorem err_row{W:D!}{B:Nat}{t:TypeId}{fr:Nat×Nat}{n:Int}{s:ByteArray}(h:W.heap[B]? =C! (.cells (errCells n s) t fr))(k:Nat)(e:k<14):
 W.cell? (B? B<|k*4)=N? ((afT n s k).kind)/\W.cell? (B? B<|k*4+1)=N? ((afT n s k).peer)/\W.cell? (B? B<|k*4+2)=N? ((afT n s k).n)/\W.cell? (B? B<|k*4+3)=C! (D? (afT n s k).data):=by
 simp only[World.cell?,h];rcases(by omega:k=0\/k=1\/k=2\/k=3\/k=4\/k=5\/k=6\/k=7\/k=8\/k=9\/k=10\/k=11\/k=12\/k=13)with rfl|rfl|rfl|rfl|rfl|rfl|rfl|rfl|rfl|rfl|rfl|rfl|rfl|rfl<;>exact⟨rfl,rfl,rfl,rfl⟩
theorem err_want{W:D!}{B:Nat}{t:TypeId}{fr:Nat×Nat}(h:W.heap[B]? =C! (.cells (errWs.map<|Value.int .i64).toArray t fr))(k:Nat)(e:k<14):W.cell? (B? B k)=N? (ai9 k):=by
 simp only[World.cell?,h];rcases(by omega:k=0\/k=1\/k=2\/k=3\/k=4\/k=5\/k=6\/k=7\/k=8\/k=9\/k=10\/k=11\/k=12\/k=13)with rfl|rfl|rfl|rfl|rfl|rfl|rfl|rfl|rfl|rfl|rfl|rfl|rfl|rfl<;>rfl
theorem errA_in(n:Int)(s:ByteArray)(i:s.size=513)(e: -9223372036854775808<=n)(t:n<=9223372036854775807)(k:Nat)(o:k<14):((afT n s k).data.size:Int)<=9223372036854775807/\ -9223372036854775808<=(afT n s k).n/\(afT n s k).n<=9223372036854775807/\((afT n s k).kind=0->(afT n s k).n<=4096->False):=by
 rcases(by omega:k=0\/k=1\/k=2\/k=3\/k=4\/k=5\/k=6\/k=7\/k=8\/k=9\/k=10\/k=11\/k=12\/k=13)with rfl|rfl|rfl|rfl|rfl|rfl|rfl|rfl|rfl|rfl|rfl|rfl|rfl|rfl
 all_goals
  simp only[afT,baP,bbq];refine⟨?_,?_,?_,?_⟩
  .first|decide|omega
  .first|exact e|decide
  .first|exact t|decide
  .intro a b
   first|exact absurd a I!|exact absurd b I!
theorem wp_name{c:Code}{P:Program}{Q:Exit->Act->D!->Prop}{a:Act}{w:D!}(h:∀W,w=W->c.wp P Q a W):c.wp P Q a w:=h _ rfl
def zrowN(n:Nat):Array Value:=madeCells #[.int .u8 0] n
def zrow513:Array Value:=zrowN 513
theorem make513(w:D!):(Instr.makeSlice 64 (A! 513)<|A! 513).run E? w=.ok (J! (C!<|B? w.heap.size 0) 513 513) (w.alloc (.cells zrow513 5)):=by
 let⟨s,t,o,i,n⟩:=bb5 Dk;have h:=run_make w 64 5 s (.int .u8 0) underlying64 t o .i64 .i64 513 513 B! B! (by rw[n];omega) B!;have e:(513:Int).toNat=513:=rfl;rw[e,i,bbb]at h;exact h
def zerosS(n:Nat):ByteArray:=bytesOf<|List.replicate n 0
theorem zerosS_size(n:Nat):(zerosS n).size=n:=by unfold zerosS;rw[aA,List.length_replicate]
def s513:ByteArray:=zerosS 513
theorem convN(n:Nat)(w:D!):(convert 64 9<|J! (C!<|B? w.heap.size 0) n n).run E? (w.alloc (.cells (zrowN n) 5))=.ok (D?<|zerosS n) (w.alloc (.cells (zrowN n) 5)):=by
 have t:(List.replicate n (0:UInt8)).length=n:=List.length_replicate
 have h:=bcd (P:=E?) (w.alloc (.cells (zrowN n) 5)) 64 9 5 (B? w.heap.size 0) n (List.replicate n 0) underlying64 underlying5 underlying9 (λj e=>by
  have o:((B? w.heap.size 0):Addr).add j=(B? w.heap.size j):=ban;rw[o,j!];have i:j<n:=by rw[t]at e;exact e
  simp[zrowN,madeCells,i,Nat.mod_one])
 rw[t]at h;exact h
theorem errors_walk(f ac:Int)(c0:Int)(w:D!)(hm:dm w c0):
 G! E? 9 #[A! f,A! ac] w (S? w<|H? C?):=by
 have a5:=A?<|af5 hm;have aa:=A? hm;have bf:=A? λn w=>Qv n w;clear hm
 obtain⟨k,z,cb⟩:∃k:Nat,k<14/\(IntKind.u64.wrap f).tmod 14=(k:Int):=by
  have g:0<=IntKind.u64.wrap f:=by rw[IntKind.wrap_u64];omega
  refine⟨((IntKind.u64.wrap f).tmod 14).toNat,?_,?_⟩
  .rw[baB g];omega
  .rw[baB g];omega
 go_enter func9,ntmps9
 go_upto_region 6 with(first
  |(go_at_call 14;refine M! a5 λci V=>?_)
  |(go_at_call 26;refine M! (Ye _) λw1 an=>?_)
  |(go_at_call 15;apply(Yg _).mono;rintro e o ⟨c1,rfl,a3,a,ad,cc,b1,ao,ax⟩)
  |(go_at_call 17;refine M! (bf _ _) λbe ag=>?_))
 have a7:=A?<|LawE.new b1 aa (V.trans<|an.mono V.size) ao ax;clear b1 V an ao ax a5;go_upto_region 7 with fail
 obtain⟨X,M⟩:=F?<|wrap64<|1000+bits BinOp.and IntKind.i64 ac 1023;rw[M];have F: -9223372036854775808<=X/\X<=9223372036854775807:=by rw[<-M];unfold wrap64;omega
 clear M;have bo:=make513 o;have bm:(convert 64 9<|J! (C!<|B? o.heap.size 0) 513 513).run E? (o.alloc (.cells zrow513 5))=.ok (D? s513) (o.alloc (.cells zrow513 5)):=convN 513 o;have hs:=A?<|zerosS_size 513
 go_upto_region 8 with(first
  |(apply c2 rfl 24 34 14 _ rfl _ rfl _ rfl cd (errCells X s513) M?))
 clear bo bm;obtain⟨S,hS⟩:=F?<|zerosS 513;rw[show s513=S from hS];rw[hS]at hs;clear hS
 go_upto_region 9 with(first
  |(apply c2 rfl 35 3 14 _ rfl _ rfl _ rfl ce (errWs.map (Value.int .i64)).toArray M?))
 refine wp_name λW m=>?_;have hB:K! o W:=by rw[<-m];exact ak (ak R! _) _
 have ae:(o.alloc (.cells zrow513 5)).heap.size=o.heap.size+1:=N!;have y:=ed (o.alloc (.cells zrow513 5)) 34 3 (errCells X S) (errWs.map<|Value.int .i64).toArray;rw[ae]at y;have g:=err_row (W:=W) (B:=o.heap.size+1) (t:=34) (fr:=(0,0)) (n:=X) (s:=S) (by rw[<-m];exact y.1) k z;have al:=err_want (W:=W) (B:=o.heap.size+1+1) (t:=3) (fr:=(0,0)) (by rw[<-m];exact y.2) k z;have H:=A?<|a7.below hB;have br:W.heap.size=o.heap.size+1+1+1:=by rw[<-m];simp
 have b:=A?<|OwnL.new (G:=a3) (W:=o) (W1:=W) (B:=o.heap.size+1+1) B! B!;clear m y ae hB a7 br;generalize grow a3 o.heap.size free=c4 at H b;go_upto_region 10 with fail
 obtain⟨bs,bv,bx,bz⟩:=g;obtain⟨b4,b5,b6,b7⟩:=errA_in X S hs F.1 F.2 k z;have O:=A?<|H.act (afT X S k) (Py lW KI) B! b4 b5 b6 (λa ad _=>absurd ad<|b7 a)<|λ_=>TnC.off rfl;obtain⟨b8,b9⟩:=ah1 X S hs k z;rw[b8]at O;generalize (gr (js lW)<|afT X S k).1=c5 at O b9;clear b8 b4 b5 b6 b7 F
 go_upto_region 11 with(first
  |(go_at_call 35;apply O.mono;rintro e cj ⟨rfl,c3,az,J⟩))
 have bi:=(b.cell J k).trans al;have D:=A?<|b.step J;have a8:=A? az;clear al J az H O b bs bv bx bz;have R:=A? a8.loads;obtain⟨qt,a0,a1,ba,bc⟩:=b9;rw[ba,bc]at R
 go_upto_region 12 with(first
  |(go_at_call 31;apply R.mono;rintro e a2 ⟨rfl,bk,b0,Z⟩))
 have bj:=(D.cell Z k).trans bi;have a9:=A? b0;have C:=A?<|D.step Z;clear bi Z b0 a8 D R;have u:=a9.drewn;have am:OwnL a2.drew bk<|o.heap.size+1+1:=⟨C.1,C.2⟩;have A:J? a2.drew (o.heap.size+1+1) k<|ai9 k:=bj;clear bj a9 C;obtain⟨ab,j⟩:=F? a2.drew;rw[j]at u am A;have L:=A? u.time;rw[qt]at L;have N:=A?<|u.Yf<|by rw[a0];decide
 rw[a0]at N;have av:=A? u.base
 have a4:E!<|∀r,K! ab r->G! E? 33 #[ptr c1,A! 1] r λe I=>∃bd,e=.returned bd/\ky fB I r.heap.size bd []/\K! r I:=A? λr Y=>by
  have:=(u.below Y).af4 (by rw[a1];decide);rw[a1]at this;exact this
 have E:E!<|∀r,K! ab r->J? r (o.heap.size+1+1) k (ai9 k):=A? λr Y=>af Y A;unfold ptr at L N a4;clear u am qt a0 a1 ba bc aa;refine dW (λI=>I.cell? (B? (o.heap.size+1+1) k)=N? (ai9 k)) [(0,C?),(2,C?),(3,C?),(4,C?),(5,C?),(1,H!),(6,C?),(7,C?),(8,C?),(9,H!),(10,C?),(11,C?),(12,C?),(13,C?),(16,C?),(14,H!),(15,C?),(17,H!),(18,C?),(19,C?),(20,C?),(21,C?),(22,C?),(23,C?),(24,C?),(25,C?),(26,C?),(27,C?),(28,C?),(29,C?),(30,C?)] (by rw[j];exact A) ?_;refine tR ?_;rw[j];clear j A;have ca:(k:Int)<14:=B!;refine R? ?_;intro K i;go_wp2_with(go_at_call 17;refine M! (bf _ _) λbe ag=>?_);apply O! i (E _ U?);clear i K;refine R? ?_;intro K i;go_wp2_with(go_at_call 25;refine M! L λbe ag=>?_);apply O! i (E _ U?);clear i K;refine R? ?_;intro K i;go_wp2_with(go_at_call 33;apply N.mono;rintro e ck ⟨cf,rfl,b2,q⟩;obtain⟨c6,c8,rfl,-,-⟩:=b2.1.form);apply O! i (E _ q);clear i K b2;have bl:=A?<|a4 _ q;have a6:=A? q;clear q;refine R? ?_;intro K i;go_wp2_with(go_at_call 33;apply bl.mono;rintro e cn ⟨ch,rfl,b3,ar⟩;obtain⟨c7,c9,rfl,-,-⟩:=b3.1.form);have ap:=a6.trans<|ar.mono a6.size;apply O! i (E _ ap);clear i K b3 ar;refine T? ?_;go_wp2_with fail;go_ret;exact⟨rfl,av.trans<|ap.mono av.size⟩
