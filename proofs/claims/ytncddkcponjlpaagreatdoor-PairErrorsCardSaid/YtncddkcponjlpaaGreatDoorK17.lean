/- Walks and plain laws. -/
import Derived.Test.YtncddkcponjlpaaGreatDoorK14
import Derived.Test.YtncddkcponjlpaaGreatDoorK16
set_option linter.unusedVariables false
set_option linter.unusedSimpArgs false
set_option maxHeartbeats 0
set_option maxRecDepth 99999
namespace Go.Proofs.YtncddkcponjlpaaGreatDoor
open Go.RowKit Go.Proofs.Tryz
open Go renaming World→D!,Value→I?,Calls→G!,IntKind→ncy
open Go.RowKit renaming Hid→E!
open Decidable renaming decide→K?
open Option renaming some→C!,none→L?
open Bool renaming true→C?,false→H!
open Go.Proofs.Tryz renaming prog→E?
variable{P:Prop}
variable{N r M s M2 s2:Nat}{p:aF}{id:Int}{z z' z2:PS}{o:Option Int}{l:aM}
theorem Rg(v:I?)(code id:Int)(d:List bD)(data:ByteArray)(w:D!)(l:List UInt8)(e:Int)(n t i:Bool)
 (hput:∀w,aI w v d->G! E? 211 #[v] w (S? w (.tuple #[D?<|bytesOf l,A! e])))
 (hcf:∀w,G! E? 190 #[A! code] w (T! w<|H? n))
 (ho1:∀w,G! E? 212 #[A! code] w (T! w<|H? t))
 (ho2:∀w,G! E? 212 #[A! id] w (T! w<|H? i))
 (h:aI w v d)(c:t=C?)(u:i=C?)(m:e=0)(T:ByteArray)(y:bytesOf l++data=T)(b:¬9223372036854775807<(bytesOf l).size+data.size)(A:T.size<=4611686018427390000)(g:n=C?)(j:data.toList=[])(E:2044<T.size):
 G! E? 166 #[.agg #[A! code,A! id,v,D? data]] w (S? w (.tuple #[D?<|ByteArray.empty,A! 503])):=by
 subst c u;subst m;have O:IntKind.i64.wrap (4+(T.size:Int))=4+(T.size:Int):=ϫ _ B!;have q:(2048:Int)<4+(T.size:Int):=B!;subst g;exact bca
theorem CL:∀(n m:Nat) (l:List UInt8) (t:List bD),l.length<n->l.length<m->iF n l t=iF m l t
 |0,_,_,_,h,_=>B!
 |_,0,_,_,_,h=>B!
 |n+1,m+1,l,t,i,d=>by
  unfold iF;by_cases e:l=[]
  .rw[G? e,G? e]
  .rw[F! e,F! e];by_cases h:l.length<2\/(l.getD 1 0).toNat<2\/l.length<(l.getD 1 0).toNat
   .rw[G? h,G? h]
   .rw[F! h,F! h]
    have:(l.drop (l.getD 1 0).toNat).length<l.length:=by
     rw[Φ];have:l.length≠0:=λh=>e<|y? h;omega
    exact CL n m _ _ B! B!
def aej(v:I?):Nat:=match v with|.string s=>s.size|_=>0
theorem GK(l:List UInt8)(w:D!)(a6:l.length<=4611686018427387904):G! E? 191 #[D?<|bytesOf l] w λe I=>∃v,e=.returned (.tuple #[v,A! (dO l).2])/\bq dS I w.heap.size v (dO l).1/\K! w I:=by
 have y:=aA l;by_cases O:2048<l.length
 .have HM:E!<|dO l=([],401):=A? (by unfold dO;rw[G? O]);have B:K? ((2048:Int)<(l.length:Int))=true:=b! B!;go_wp2;go_ret2;exact⟨Q!,ba3,mbC,P! _ _⟩
 .have HM:E!<|dO l=iF (l.length+1) l []:=A? (by unfold dO;rw[F! O]);have B:K? ((2048:Int)<(l.length:Int))=false:=W? B!;go_wp2;go_loopw[0,4] (λs v wr=>∃(u:List UInt8) (n:List bD),s=D? (bytesOf u)/\bq dS wr w.heap.size v n/\K! w wr/\u.length+n.length<=2048/\E! (dO l=iF (u.length+1) u n)) (λs _ _=>aej s)
  case atStart=>exact⟨l,[],rfl,bq.nil _ _ _,P! _ _,p!,HM⟩
  case round=>
   obtain⟨u,n,rfl,j,g,A,m⟩:=hrel;have y:=aA u;cases u with
   |nil=>
    have q:(bytesOf ([]:List UInt8)).toList=[]:=(dG _).trans rfl;obtain⟨ac,ad,rfl,-,-⟩:=aD.form j.at;have HM:=A?<|m.out.trans<|by unfold iF;rw[G? rfl]
    go_wp2
    go_ret2;exact⟨_,ba3,by rw[HM.out];exact j,g⟩
   |cons i r=>
    have q:(bytesOf (i::r)).toList=i::r:=(dG _).trans rfl;have a2:∀h,(bytesOf (i::r))[0]'h=i:=λ_=>rfl;have a0:=i.toNat_lt;rw[V!]at y A;cases r with
    |nil=>
     have HM:=A?<|m.out.trans<|by unfold iF;rw[F! N!,G? (.inl N!)]
     simp only[l?,ξ]at y;go_wp2;go_ret2;exact⟨Q!,ba3,mbC,g⟩
    |cons t r=>
     have a3:∀h,(bytesOf (i::t::r))[1]'h=t:=λ_=>rfl;have a1:=t.toNat_lt;rw[V!]at y A;by_cases f:t.toNat<2\/r.length+2<t.toNat
     .have HM:=A? (m.out.trans<|by unfold iF;rw[F! N!,G? (.inr<|by simpa using f)]);have R:=A? f;go_wp2_with fail
      all_goals first
       |(go_ret2;exact⟨.slice L? 0 0,ba3,mbC,g⟩)
       |(exfalso;have:=R.out;omega)
     .have a4:¬t.toNat<2:=λe=>f (.inl e);have a5:¬r.length+2<t.toNat:=λe=>f (.inr e)
      have X:¬((i::t::r).length<2\/((i::t::r).getD 1 0).toNat<2\/(i::t::r).length<((i::t::r).getD 1 0).toNat):=by
       simp only[V!,bbq,baP];omega
      have E:((i::t::r).drop t.toNat).length+t.toNat=r.length+2:=by rw[Φ];simp only[V!];omega
      have HM:E! (dO l=iF (((i::t::r).drop t.toNat).length+1) ((i::t::r).drop t.toNat) (n++[((i.toNat:Int),bytesOf (((i::t::r).take t.toNat).drop 2))])):=A? (m.out.trans (by
       rw[iF,F! N!,F! X];exact CL _ _ _ _ (by show((i::t::r).drop t.toNat).length<_;simp only[V!];omega) (by show((i::t::r).drop t.toNat).length<_;omega)))
      have J:=pM (i::t::r) 2 t.toNat;have Z:=za (i::t::r) t.toNat (r.length+2) rfl;let⟨V,W⟩:=F?<|((i::t::r).take t.toNat).drop 2;let⟨D,G⟩:=F?<|(i::t::r).drop t.toNat;rw[W]at J HM;rw[G]at Z HM E;have C:D.length+(n.length+1)<=2048:=B!;have H:=A? E;have L:E!<|(n.length+1)*dS.bytes<=140737488355328:=A? (by show(n.length+1)*24<=_;omega);have a7:r.length<=2048:=B!;have a8:(0:Int)<(r.length:Int)+1+1:=B!;have a9:(2:Int)<=(t.toNat:Int):=B!;have aa:(t.toNat:Int)<=(r.length:Int)+1+1:=B!;go_wp2;refine dW (λ_=>True) (zcb [8,2,1]) (trivial) ?_;refine R? ?_;intro K b;go_wp2_with fail;apply O! b trivial;refine ai λK b=>?_;go_wp2_with(at_builtin;apply xZ dS rfl _ _ rfl w _ n ((i.toNat:Int),bytesOf V) _ (j.below (P! _ _).drew) rfl _ rfl rfl L (aQ g) I!;intro ab ae F Y _ _);apply O! b trivial;refine T? ?_;go_wp2;go_roundw
      case rel=>exact⟨D,_,rfl,F,Y,by rw[X!];exact C,HM⟩
      case measure=>
       have:=H.out;simp[aej,aA];omega
def qB:Array Value:=(Ba.map λ(n:Nat)=>Value.int .u32 (n:Int)).toArray
def Sh:Array Value:=Array.replicate 64 (.int .u32 0)
theorem Si(w:D!):(zeroValue 381).run E? w=.ok (.agg Sh) w:=M?
theorem I6(w:D!):G! E? 298 #[] w (S? w (.agg qB)):=by
 have i:=Si;have t:E!<|Sh.size=qB.size:=A? baS;have e:E!<|qB.all (·.oneCell')=true:=A? baS;go_in
 go_wp2_with(first
  |(apply kf rfl 381 _ rfl qB M?)
  |(apply uU rfl 381 _ _ rfl qB rfl rfl 381 Sh M? t e))
 refine V? (mdI rfl _ _ w.heap.size 381 qB (0,0) _ rfl (c! _ _) underlying381 rfl M?) rfl ⟨rfl,R!⟩
theorem ac6(n:Nat)(h:n<4294967296):KQ n=[n,0].flatMap le4:=by
 have e:∀k,4294967296<=k->n/k=0:=λk t=>Nat.div_eq_of_lt B!;simp only[KQ,ϐ,List.flatMap_nil,le4,i?,y!,baj,mdX,List.nil_append];rw[e 4294967296 I!,e 1099511627776 I!,e 281474976710656 I!,e 72057594037927936 I!]
def ET(z:Nat):List UInt8:=128::List.replicate z 0
theorem aav(w:D!)(z:Nat)(j:z<64):∃e:Array I?,
 (Instr.makeSlice 64 (A!<|1+(z:Int))<|A!<|1+(z:Int)).run E? w=.ok (J! (C!<|B? w.heap.size 0) (1+z)<|1+z) (w.alloc (.cells e 5))/\e[0]? =C! (.int .u8 0)/\
 Own (w.alloc (.cells (e.setIfInBounds 0 (.int .u8 128)) 5)) w.heap.size (J! (C!<|B? w.heap.size 0) (1+z)<|1+z) (ET z):=by
 let⟨k,m,b,g,v⟩:=bb5 Dk;have c:=run_makeSlice w 64 5 k (.int .u8 0) underlying64 m b .i64 .i64 (1+(z:Int)) (1+(z:Int)) B! (Y! _) (by rw[g];omega) (by rw[v];omega) B!;have y:(1+(z:Int)).toNat=1+z:=B!;rw[g,y,bbb]at c
 have d:∀i,i<1+z->(madeCells (Value.int .u8 0).cells<|1+z)[i]? =C! (.int .u8 0):=λi m=>by
  rw[madeCells,Array.getElem?_map,Array.getElem?_range,G? B!];show C! ((Value.int IntKind.u8 0).cells[i%1]!)=_;rw[Nat.mod_one];rfl
 have u:(madeCells (Value.int .u8 0).cells<|1+z).size=1+z:=size_madeCells _ _;generalize madeCells (Value.int .u8 0).cells (1+z)=e at c d u;refine⟨e,c,d 0 B!,?_⟩;have t:(ET z).length=1+z:=by simp[ET];omega
 refine⟨by rw[bax,bbb],.inr ⟨w.heap.size,1+z,_,by rw[t],Y? _,c! _ _,by rw[t];exact Y? _,bao,by simp[u],?_⟩⟩;rw[t,bbb];apply bbo;intro i;by_cases f:i<1+z
 .rw[List.getElem?_take_of_lt f,Array.getElem?_toList,mba];by_cases n:0=i
  .subst n;rw[G? rfl,G? B!];rfl
  .rw[F! n,d i f];cases i with
   |zero=>exact absurd rfl n
   |succ i=>
    simp only[ET,Lib.byteCells,i?,baA,q!];rw[List.getElem?_replicate,G? B!];rfl
 .rw[bct p!,bct<|by rw[bax,t];omega]
def qC:Array Value:= #[.int .u32 1732584193,.int .u32 4023233417,.int .u32 2562383102,.int .u32 271733878]++qB
theorem WS(w:D!):EQ (w.alloc (.cells qC 384)) w.heap.size oz:=by
 have d:(List.range 64).map (λi=>qC[4+i]?)=(List.range 64).map (λi=>C!<|Value.int .u32 (Ba.getD i 0:Int)):=M?
 have n:∀i,i<64->qC[4+i]? =C! (Value.int .u32 (Ba.getD i 0:Int)):=λi e=>by
  have h:=U! (λl=>l[i]?) d;simp only[q!,mdQ e,p?]at h;exact baL h
 refine⟨λj t=>?_,λi e=>?_,λj t=>Γ⟩
 .rw[j!]
  match j,t with
  |0,_=>rfl
  |1,_=>rfl
  |2,_=>rfl
  |3,_=>rfl
 .rw[j!];exact n i e
theorem AP:∀(k:Nat) (h:Da) (l:List UInt8),fw (k+1) h l=zG (fw k h l) ((l.drop<|64*k).take 64)
 |0,h,l=>by simp[fw]
 |k+1,h,l=>by
  rw[fw,AP k];rw[show fw (k+1) h l=fw k (zG h<|l.take 64) (l.drop 64)from rfl,List.drop_drop];congr 3;omega
theorem Em:∀(k:Nat) (h:Da) (l:List UInt8),h.ok->(fw k h l).ok
 |0,h,l,e=>e
 |k+1,h,l,e=>Em k _ _<|YD _ _
def afd:I?->Nat
 |.string s=>s.size
 |_=>0
theorem LV(s:ByteArray)(w:D!)(hs:s.size<=1000000):
 G! E? 267 #[D? s] w (S? w<|D?<|bytesOf<|KR s.data.toList):=by
 have ac:(s.size:Int).tmod 64=((s.size%64:Nat):Int):=mbH;let⟨r,Z⟩:=F?<|s.size%64;have bv:r<64:=B!;rw[Z]at ac;have ad:(119-(r:Int)).tmod 64=(((119-r)%64:Nat):Int):=mbH;let⟨z,a0⟩:=F?<|(119-r)%64;have bf:z<64:=B!;rw[a0]at ad
 have a1:E! (BX s.data.toList=s.data.toList++(ET z++[s.size*8,0].flatMap le4)):=A? (by
  have bi:zH s.data.toList.length=z:=by rw[bK];unfold zH;rw[Z,a0]
  unfold BX;rw[bi,bK,Nat.mul_comm 8,ac6 (s.size*8) B!,baa];rfl)
 clear Z a0;let⟨ax,b9,b6,q⟩:=aav w z bf;have a9:=q.conv;let⟨i,B⟩:=F?<|w.alloc (.cells (ax.setIfInBounds 0 (.int .u8 128)) 5);have a6:K! w i:=by rw[<-B];exact R!
 rw[B]at q a9;have b:=A? q;clear q;go_wp2;refine dW (λn=>(convert 64 9<|J! (C!<|B? w.heap.size 0) (1+z)<|1+z).run E? n=.ok (D?<|bytesOf<|ET z) n) (zcb [8,2,3]) (b.below (P! _ _).drew).conv ?_;refine R? ?_;intro K f;go_wp2_with fail;have aa:(s.size:Int)*8/4294967296=0:=B!;rw[aa];let⟨H,y⟩:=F?<|(i.alloc (.cells #[.int .u32<|(s.size:Int)*8,.int .u32 0] 182)).drew;have L:K! i H:=by rw[<-y];exact aQ R!
 have m:LU H i.heap.size 0 [s.size*8,0]:=by
  intro j X;rw[<-y];show(i.alloc (.cells #[.int .u32<|(s.size:Int)*8,.int .u32 0] 182)).cell? (B? i.heap.size<|0+j)=_;rw[ξ,j!]
  match j,X with
  |0,_=>rfl
  |1,_=>rfl
 have ab:i.heap.size<H.heap.size:=by rw[<-y];show _<(i.alloc _).heap.size;simp
 rw[y];refine ah<|f _ _ (b.below L).conv ?_;clear f K y aa;refine R? ?_;intro K f;go_wp2_with(go_at_call 297;refine M! (GQ i.heap.size 0 2 [s.size*8,0] _ N! N! (by unfold maxLen;decide) m ab) λc0 a8=>?_);have D:=seqB L a8;refine ah<|f _ _ (b.below D).conv ?_;clear f K;have bj:(bytesOf<|ET z).size<=65:=by rw[aA];simp[ET];omega
 have bk:(bytesOf<|le4 (s.size*8)++le4 0).size=8:=by rw[aA];simp[le4]
 have b1:¬9223372036854775807<(bytesOf<|ET z).size+(bytesOf<|le4 (s.size*8)++le4 0).size:=B!;have b2:¬9223372036854775807<s.size+(bytesOf (ET z)++bytesOf (le4 (s.size*8)++le4 0)).size:=by rw[mcG];omega
 have b3:¬9223372036854775807<s.size+((bytesOf<|ET z).size+(bytesOf<|le4 (s.size*8)++le4 0).size):=B!;clear bj bk;refine T? ?_;have C:=seqB a6 D;clear m ab L a8 a9 b9
 go_wp2_with(first
  |(go_at_call 298;refine M! (I6 _) λO V=>?_)
  |(apply kf rfl 384 _ rfl qC M?))
 have E:=WS O;have a7:K! w<|O.alloc (.cells qC 384):=ak (seqB C V) _;generalize O.alloc (.cells qC 384)=az at E a7|-;let⟨p,J⟩:=F? O.heap.size;have bx:w.heap.size<=p:=by rw[<-J];exact(seqB C V).size
 rw[J]at E|-;let⟨T,W⟩:=F?<|s++(bytesOf (ET z)++bytesOf (le4 (s.size*8)++le4 0))
 have Y:T.data.toList=BX s.data.toList:=by
  rw[<-W,a1.out];simp[bytesOf]
 rw[W];let⟨P,g⟩:=F?<|BX s.data.toList;obtain⟨N,F⟩:∃N,P.length=64*N:=⟨P.length/64,by have:=Vq s.data.toList;rw[g]at this;omega⟩;have I:=A? F
 have an:E! (KR s.data.toList=Uj (fw N oz P)):=A? (by
  unfold KR;rw[g,F,Nat.mul_div_cancel_left _ I!])
 rw[g]at Y;have ap:=A? Y;have ao:=A? E
 have br:P.length<=1000200:=by
  have:=B5 s.data.toList;rw[g,bK]at this;have bo:zH s.size<64:=x? _ I!;omega
 clear E Y W J C V a6 B b b6 a1 b1 b2 b3 D g F ac ad;go_loopw[0] (λv wr=>∃(k:Nat) (t:ByteArray),v=D? t/\k<=N/\E! (t.data.toList=P.drop (64*k))/\EQ wr p (fw k oz P)/\Only (· =p) az wr) (λv _=>afd v)
 case atStart=>exact⟨0,T,rfl,S! _,A?<|by rw[ap.out];rfl,ao,Only.refl _ _⟩
 case round=>
  obtain⟨k,t,rfl,bs,R,u,G⟩:=hrel;have A:E!<|t.size=64*N-64*k:=A? (by rw[<-bK,R.out,Φ,I.out]);by_cases b8:k<N
  .have b4:64<=t.size:=by have:=A.out;omega
   have b0:t.toList.isEmpty=false:=by
    rw[dG];cases bc:t.data.toList with
    |nil=>
     have a5:=U! List.length bc;rw[bK]at a5;have bm:t.size=0:=a5;omega
    |cons c r=>rfl
   have ae:(t.extract 0 64).data.toList=(P.drop<|64*k).take 64:=by rw[extract_toList,R.out];simp
   have ag:(t.extract 64 t.size).data.toList=P.drop (64*(k+1)):=by
    rw[extract_toList,R.out,List.drop_drop,show 64*k+64=64*(k+1) from B!];rw[u?];rw[Φ,I.out,A.out];omega
   have ar:E! (∀n,EQ n p (fw k oz P)->G! E? 299 #[P? p,D? (t.extract 0 64)] n λe al=>e=.returned (.tuple #[])/\EQ al p (fw (k+1) oz P)/\Only (· =p) n al):=A? (λn h=>by
    rw[AP,<-ae];exact aau p _ (t.extract 0 64) n h (Em _ _ _ ⟨I!,I!,I!,I!⟩) (DV _ _ b4))
   have a2:=A? ag;have be:=ar wr u;clear ae ag;go_wp2_with(go_at_call 299;apply be.mono;rintro e bl ⟨rfl,bd,b5⟩);go_roundw
   case rel=>exact⟨k+1,t.extract 64 t.size,rfl,b8,a2,bd,G.trans b5⟩
   case measure=>
    show(t.extract 64 t.size).size<t.size;rw[<-bK,a2.out,Φ,I.out];have:=A.out;omega
  .obtain rfl:k=N:=B!
   have b0:t.toList.isEmpty=true:=by
    rw[dG,List.isEmpty_iff];exact y? (by rw[bK,A.out];omega)
   have a3:LU wr p 0 [(fw k oz P).a,(fw k oz P).b,(fw k oz P).c,(fw k oz P).d]:=by
    intro j X;rw[ξ]
    match j,X with
    |0,_=>exact u.c 0 I!
    |1,_=>exact u.c 1 I!
    |2,_=>exact u.c 2 I!
    |3,_=>exact u.c 3 I!
   have ba:=h!<|u.c 0 I!;have m:=GQ p 0 4 _ wr N! N! (by unfold maxLen;decide) a3 ba;have a4:[(fw k oz P).a,(fw k oz P).b,(fw k oz P).c,(fw k oz P).d].length=4:=rfl;rw[a4]at m;have am:=A?<|((Only.aP (S:=(· =p)) a7).trans G).below O?<|λbz e=>B!;have av:=A? m;clear m a3 u a4 G;go_wp2_with fail;refine M! av λbl b7=>?_;go_wp2;go_ret;refine⟨?_,seqB am b7⟩;rw[an.out];show _=Ending.returned (D?<|bytesOf<|Uj<|fw k oz P);simp[Uj]
theorem Ep:∀(n:Nat) (l:List UInt8) (e:List bD),(iF n l e).1.length<=e.length+n
 |0,l,e=>S! _
 |n+1,l,e=>by
  unfold iF;split
  .show e.length<=e.length+(n+1);omega
  .split
   .exact S! _
   .have:=Ep n (l.drop (l.getD 1 0).toNat) (e++[(ko l 0,bytesOf<|(l.take (l.getD 1 0).toNat).drop 2)]);rw[X!,baW]at this;omega
theorem Ma(l:List UInt8):(dO l).1.length<=2049:=by
 unfold dO;split
 .exact S! _
 .have:=Ep (l.length+1) l [];simp only[l?]at this;omega
theorem zo(l:List UInt8):(dK l).1.opts.length<=2049:=by
 unfold dK;split
 .exact S! _
 .split
  .exact S! _
  .dsimp only;split
   .exact S! _
   .split
    .exact S! _
    .exact Ma _
theorem xA(l:List UInt8):(dx l).1.data.size<=4096:=by
 unfold dx;split
 .exact S! _
 .split
  .exact S! _
  .split
   .exact S! _
   .rename_i h;split
    .show(bytesOf<|(l.take<|cB l).drop 4).size<=4096;have e:(bytesOf<|(l.take<|cB l).drop 4).size=((l.take<|cB l).drop 4).length:=by rw[<-bK];rfl
     rw[e,Φ,w!];omega
    .split<;>exact S! _
theorem di.ready(h:di N r id l)(b:Bool):di N r id {l with ready:=b}:=⟨h.id,h.pf,h.an,h.a0,h.a1,h.bf,h.out,h.tm⟩
theorem di.term(h:di N r id l){k:bg}(e:k.data.size<=4096):di N r id {l with term:=C! k}:=⟨h.id,h.pf,h.an,h.a0,h.a1,h.bf,h.out,(λx t=>by cases t;exact e)⟩
theorem UI(h:Fit N r z)(i:Int):bA L? N r z ({z.1 with queue:=(Bd z.1.queue i).1},z.2):=
 gB h {h.p with q:=h.p.q.add i} O? {eQ.refl z.1 with ql:=(by show fN (Bd z.1.queue i).1<=_;rw[aaB];exact Y! _)} rfl (λ_=>rfl) rfl
theorem afh(h:Fit N r z)(e:au z.1.links id=C?)(k:bg)(c:k.data.size<=4096):bA (C! id) (N+1) (r+2) z<|yD z id k:=by
 unfold yD;dsimp only;split
 .exact((dH h e (f:=λl=>{l with term:=C! k}) O?<|(h.p.link e).1.term c).mono B! B!).some _
 .split
  .exact(bA.refl h _).mono B! B!
  .let⟨p,d⟩:=F? (if k.code=10/\(lk z.1 id).phase=4/\(lk z.1 id).ready=H! then{aN z.1 id (λl=>{l with ready:=C?})with queue:=(Bd z.1.queue id).1}else z.1);rw[d]
   have t:bA L? N r z (p,z.2)/\au p.links id=true:=by
    rw[<-d];split
    .have i:=dH h e (f:=λl=>{l with ready:=C?}) O? ((h.p.link e).1.ready C?);exact⟨i.trans<|UI i.fit id,(aG (λl=>{l with ready:=C?}) e id).trans e⟩
    .exact⟨bA.refl h L?,e⟩
   obtain⟨t,n⟩:=t;have i:=dH t.fit n (f:=λl=>cq l k) (s:=r+1) B!<|(t.fit.p.link n).1.take k;exact((t.trans i).some _).trans<|aaG i.fit<|(aG (λl=>cq l k) n id).trans n
theorem ada(h:Fit N r z)(t:au z.1.links id=C?)(c:cT):bA (C! id) (N+1) (r+2) z<|oO z id c:=by
 unfold oO;cases y:(lk z.1 id).proof with
 |none=>exact(bA.refl h _).mono B! B!
 |some q=>
  dsimp only;have m:=(h.p.link t).1.pf q y;have i:=dH h t (f:=λl=>lS {l with proof:=C! (cw q c).1} (cw q c).2.1) (s:=r+1) B!<|((h.p.link t).1.ZG<|m.take c).say (m.aef c)<|JU q c;let⟨e,d⟩:=F?<|aN z.1 id<|λl=>lS {l with proof:=C! (cw q c).1} (cw q c).2.1;have g:au e.links id=true:=by rw[<-d];exact(aG _ t id).trans t
  rw[d]at i|-;have s2:bA L? N (r+1) (e,z.2) ({e with proved:=bI e.proved id ((bt e.proved id).getD H!||(cw q c).1.proved)},z.2):=gB i.fit {i.fit.p with} O? {eQ.refl e with} rfl (λ_=>rfl) rfl;have s:=i.trans s2;obtain⟨n,u⟩:∃n:aF,{e with proved:=bI e.proved id ((bt e.proved id).getD H!||(cw q c).1.proved)}=n:=⟨_,rfl⟩;have w:au n.links id=true:=by rw[<-u];exact g
  rw[u]at s s2|-;split
  .exact(s.some _).trans<|(pN s2.fit id).mono O? B!
  .split
   .exact(s.some _).trans<|aaC s2.fit w
   .exact(s.some _).mono B! B!
theorem di.tell(h:di N r id l){e:List cR}(t:e.length<=1):di N (r+1) id<|e.foldl ij l:=by
 cases e with
 |nil=>exact h.mono B! B!
 |cons b e=>
  cases e with
  |nil=>
   show di _ _ _ (ij l b);unfold ij;split
   .exact h.send _ _
   .exact h.mono B! B!
  |cons _ _=>simp at t
theorem mem_row{i:Int}(h:i∈dR p):au p.links i=true:=qh.1 h
theorem Pc{i:Int}(h:i∈jP p):au p.links i=true:=mem_row (List.mem_filter.1 h).1
theorem CV(h:Fit N r z){bs:List cR}(t:bs.length<=1):bA L? N (r+1) z (pI z.1 bs,z.2):=by
 unfold pI;cases n:jP z.1 with
 |nil=>exact(bA.refl h L?).mono O? B!
 |cons i d=>
  have e:=Pc (p:=z.1) (i:=i) (by rw[n];exact x! ..);exact dH h e (f:=λl=>bs.foldl ij l) B!<|(h.p.link e).1.tell t
theorem Xc{t:List bD}{k:Int}(h:nC p t=C! k):au p.links k=true:=by
 unfold nC at h;split at h
 .cases h
 .split at h
  .rename_i e;cases h;exact e
  .cases h
theorem AV(h:Fit N r z)(t:List bD)(i:Int):bA L? N r z (mD z.1 t i,z.2):=by
 unfold mD;split
 .exact bA.refl h L?
 .rename_i k e;split
  .exact aaE h (Xc e) i
  .exact bA.refl h L?
theorem aaH(h:Fit N r z)(i:Int):bA L? N r z ({z.1 with vo:=i},z.2):=gB h {h.p with} O? {eQ.refl z.1 with} rfl (λ_=>rfl) rfl
theorem GV(h:Fit N r z)(i:Int)(b:cR):bA L? N r z (dA i z.1 b,z.2):=by
 unfold dA;split
 .exact bA.refl h L?
 .split
  .exact aaH h i
  .split
   .exact AV h _ _
   .exact bA.refl h L?
theorem Er(i:Int):∀(e:List cR) {z:PS},Fit N r z->bA L? N r z (e.foldl (dA i) z.1,z.2)
 |[],z,h=>bA.refl h L?
 |b::e,z,h=>by
  have t:=GV h i b;exact t.trans<|Er i e t.fit
theorem Pd(h:Fit N r z)(e:Sub z)(b:cR):bA L? (N+1) (r+2) z<|iJ z b:=by
 unfold iJ;split
 .exact(Fg h).mono B! B!
 .split
  .exact UH h e _
  .split
   .exact(AV h _ _).mono B! B!
   .exact(bA.refl h L?).mono B! B!
theorem Fh(h:Fit N r z){t:dD}(e:xL t):bA L? N r z ({z.1 with cC:=t},z.2):=gB h {h.p with t:=e} O? {eQ.refl z.1 with} rfl (λ_=>rfl) rfl
theorem DE(t:dD)(b:cR)(e:Bool):(lw t b e).2.1.length<=1:=by
 unfold lw;split
 .exact S! _
 .split
  .exact Y? _
  .split
   .exact Y? _
   .split<;>exact S! _
theorem aaI(h:Fit N r z)(d:Sub z)(b:cR)(c:b.opts.length<=2049):bA L? (N+1) (r+3) z<|Ag z b:=by
 unfold Ag;dsimp only;have t:=Fh h<|h.p.t.take b (!z.1.aX&&jq z b (pZ b.id<|1-z.1.side)) B!;have i:=DE z.1.cC b<|!z.1.aX&&jq z b (pZ b.id<|1-z.1.side);generalize lw z.1.cC b (!z.1.aX&&jq z b (pZ b.id<|1-z.1.side))=R at t i|-;have s2:=CV t.fit i;have e:=Er (pZ b.id<|1-z.1.side) R.2.1 s2.fit;have s:=(t.trans s2).trans e;let⟨p,n⟩:=F?<|R.2.1.foldl (dA<|pZ b.id<|1-z.1.side)<|pI {z.1 with cC:=R.1} R.2.1;simp only at s e;rw[n]at s e|-;split
 .exact s.trans<|(Pd e.fit (s.sub d) _)
 .exact s.mono B! B!
theorem afi(h:Fit N r z)(i:Int)(f:bF):bA L? (N+1) r z ({z.1 with join:=(rT z.1.join i f).1,got:=z.1.got++(rT z.1.join i f).2.1},z.2):=by
 let⟨e,t⟩:=h.p.j.put i f;refine gB h {h.p.mono (M:=N+1) B! (Y? r)with j:=e,gt:=?_} B! {eQ.refl z.1 with gt:=⟨_,rfl⟩} rfl (λ_=>rfl) rfl;have:=h.p.gt;show(z.1.got++_).length+(rT z.1.join i f).1.held.length<=N+1;rw[X!];omega
theorem GX(h:Fit N r z)(i:Sub z)(t:au z.1.links id=C?)(f:Int×List UInt8):bA (C! id) (N+1) (r+3) z<|dL z id f:=by
 have e:=(bA.refl h<|C! id).mono (M2:=N+1) (s2:=r+3) B! B!;unfold dL;dsimp only;split
 .split
  .exact(afh h t _<|xA _).mono O? B!
  .exact e
 .split
  .split
   .exact(ada h t _).mono O? B!
   .exact e
  .split
   .split
    .exact((afi h id _).mono O? B!).some _
    .exact e
   .split
    .split
     .exact(aaI h i _<|zo _).some _
     .exact e
    .exact e
theorem J9:∀(t:List<|Int×List UInt8) {N r:Nat} {z:PS},Fit N r z->Sub z->au z.1.links id=C?->bA (C! id) (N+t.length) (r+3*t.length) z (qO z id t)
 |[],N,r,z,h,_,_=>bA.refl h _
 |f::t,N,r,z,h,c,n=>by
  have i:=GX h c n f;unfold qO;rw[G? n];by_cases d:au (dL z id f).1.links id=C?
  .have:=i.trans (J9 t i.fit (i.sub c) d);exact this.mono bab bab
  .have e:qO (dL z id f) id t=dL z id f:=by
    cases t with
    |nil=>rfl
    |cons g u=>unfold qO;rw[F! d]
   rw[e];exact i.mono bab bab
theorem Mb:∀l:List UInt8,(cut l).length<=l.length+1
 |[]=>Y? _
 |c::l=>by
  have t:=Mb l;unfold cut;split
  .rw[V!,V!];omega
  .split
   .simp
   .rename_i e;rw[e]at t;rw[V!]at t|-;exact baN
theorem CW(l:List UInt8):(sP l).length<=l.length:=by
 unfold sP;apply Z? (bbO _ _);exact nak
theorem Fj(h:Fit N r z)(i:Sub z)(e:au z.1.links id=C?):bA (C! id) (N+71680) (r+215040) z<|rN z id:=by
 unfold rN;dsimp only;have n:=h.s.read id z.1.side;have u:=J8 h.s id z.1.side;have g:=(h.p.link e).1.bf;have t:=λk=>O7 (s:=z.2) id z.1.side k;generalize nr z.2 id z.1.side=R at n u t|-;have c:=CW<|(lk z.1 id).buffer++R.2.1;rw[X!]at c;have d:bA L? N r z (z.1,R.1):=⟨⟨h.p,n,by rw[(t 0).2.2];exact h.la,by rw[(t 0).2.1];exact h.po,h.l8⟩,eQ.refl _,λ_ _ h=>h,(λi k e=>by show au R.1.up k=C?;rw[(t k).1];exact i k e),by show z.2.last<=R.1.last;rw[(t 0).2.2];exact Y! _⟩;have s2:=dH d.fit e (f:=λl=>(gL l R.2.1).1) O?<|(h.p.link e).1.frames R.2.1;have s:=d.trans s2;have m:=J9 (id:=id) (gL (lk z.1 id) R.2.1).2 s.fit (s.sub i)<|(aG (λl=>(gL l R.2.1).1) e id).trans e;have w:(gL (lk z.1 id) R.2.1).2.length<=71680:=by show(sP _).length<=_;omega
 exact(s.some _).trans<|m.mono B! B!
section
variable(h:Fit N r z)(hk:au z.1.links id=C?)
include h hk
theorem Pk{l:aM}(e:N<=M)(i:r<=s)(t:di M s id l):bA L? M s z (bH z.1 id l,z.2):=
 dH (f:=λ_=>l) (h.mono e i) hk O? t|>λq=>⟨q.fit,q.grow,q.keep,q.sub,q.sl⟩
theorem Mc:bA (C! id) (N+2) (r+1) z<|rV z id:=by
 unfold rV;dsimp only;split
 .exact(pN h id).mono B! B!
 .split
  .exact(bA.refl h _).mono B! B!
  .have e:=dH h hk (f:=λl=>{l with at_:=z.1.now+z.1.c.restart}) O? ((h.p.link hk).1.setAt _);let⟨n,i⟩:=F?<|aN z.1 id<|λl=>{l with at_:=z.1.now+z.1.c.restart};have t:au n.links id=true:=by rw[<-i];exact(aG (λl=>{l with at_:=z.1.now+z.1.c.restart}) hk id).trans hk
   rw[i]at e|-;split
   .split
    .exact(e.mono B! B!).some _
    .have s2:=dH e.fit t (f:=λl=>wk l 4) (s:=r+1) B! ((e.fit.p.link t).1.do 4);simp only at s2;split
     .exact((e.trans s2).some _).trans<|(pN s2.fit id).mono B! O?
     .exact((e.trans s2).mono B! O?).some _
   .split
    .have s2:=Pk (M:=N+1) (s:=r+1) e.fit t B! B! ((e.fit.p.link t).1.again z.1.c.tries);simp only at s2;split
     .exact((e.trans s2).mono B! O?).some _
     .exact((e.trans s2).some _).trans<|pN s2.fit id
    .split
     .split
      .exact(e.mono B! B!).some _
      .have s2:=dH e.fit t (f:=λl=>lC l<|dZ n) (s:=r+1) B! ((e.fit.p.link t).1.ask _);exact((e.trans s2).mono B! O?).some _
     .exact(e.mono B! B!).some _
theorem Pm:bA (C! id) (N+1) (r+1) z<|kK z id:=by
 unfold kK;dsimp only;split
 .exact((dH h hk (f:=λl=>{wk l 3 with at_:=z.1.now+z.1.c.restart}) (s:=r+1) B!<|((h.p.link hk).1.do 3).setAt _).mono B! O?).some _
 .split
  .split
   .rename_i k t;have e:=dH h hk (f:=λl=>cq l k) (s:=r+1) B!<|(h.p.link hk).1.take k;exact(e.some _).trans<|aaF e.fit<|(aG (λl=>cq l k) hk id).trans hk
   .exact(bA.refl h _).mono B! B!
  .exact(bA.refl h _).mono B! B!
end
theorem Ew(i:au z.1.links id=C?):au (kK z id).1.links id=true:=by
 unfold kK;dsimp only;split
 .exact(aG (λl=>{wk l 3 with at_:=z.1.now+z.1.c.restart}) i id).trans i
 .split
  .rename_i f;split
   .rename_i k g;have c:=(aG (λl=>cq l k) i id).trans i;let⟨t,u⟩:=F?<|aN z.1 id<|λl=>cq l k;have d:t.aX=false:=by rw[<-u];exact f
    rw[u]at c|-;unfold endP;dsimp only
    have e:∀q:aF,(if(aN (bC (bX (ku t id) id 1 (lk t id).drop) id 6) id<|λl=>{l with over:=q.now}).aX=C? then True else False)=False:=λq=>by
     rw[F!];show¬t.aX=C?;rw[d];decide
    split
    .rename_i m;exfalso;have:t.aX=true:=m;rw[d]at this;cases this
    .have n:au (bX (ku t id) id 1 (lk t id).drop).links id=true:=c;have h:au (bC (bX (ku t id) id 1 (lk t id).drop) id 6).links id=true:=(aG (λl=>{l with phase:=6}) n id).trans n;exact(aG _ h id).trans h
   .exact i
  .exact i
theorem di.ag8(h:di N r id l):di N 0 id {l with out:=[]}:=⟨h.id,h.pf,h.an,h.a0,h.a1,h.bf,S! _,h.tm⟩
theorem Ho(h:Fit N r z)(i:au z.1.links id=C?):bA L? (N+2) (r+1) z (iM z id)/\au (iM z id).1.links id=C?/\(lk (iM z id).1 id).out=[]:=by
 unfold iM;dsimp only;let⟨x,m⟩:=F?<|if(lk z.1 id).phase=5/\pH z.1.queue id=0 then kK z id else z
 rw[m]
 have t:bA L? (N+1) (r+1) z x/\au x.1.links id=true:=by
  rw[<-m];split
  .have c:=Pm h i;have u:=Ew (z:=z) i
   exact⟨⟨c.fit,c.grow,λk _ g=>by
    by_cases e:k=id
    .rw[e];exact u
    .exact c.keep k (by simp[e]) g,c.sub,c.sl⟩,u⟩
  .exact⟨(bA.refl h L?).mono B! B!,i⟩
 obtain⟨t,n⟩:=t;split
 .have s2:=dH t.fit n (f:=λl=>{l with out:=[]}) O? ((t.fit.p.link n).1.ag8.mono O? B!);have b:=t.fit.s.send id x.1.side<|bytesOf (lk x.1 id).out;have d:=λk=>O6 (s:=x.2) id x.1.side (bytesOf (lk x.1 id).out) k
  have v:bA L? (N+2) (r+1) (aN x.1 id (λl=>{l with out:=[]}),x.2) (aN x.1 id (λl=>{l with out:=[]}),(kB x.2 id x.1.side<|bytesOf (lk x.1 id).out).1):=by
   refine⟨⟨s2.fit.p.mono B! O?,b,?_,?_,s2.fit.l8⟩,eQ.refl _,λ_ _ h=>h,λy k i=>?_,?_⟩
   .rw[(d 0).2.2];exact s2.fit.la
   .rw[(d 0).2.1];exact s2.fit.po
   .show au (kB _ _ _ _).1.up k=C?;rw[(d k).1];exact y k i
   .show x.2.last<=(kB _ _ _ _).1.last;rw[(d 0).2.2];exact Y! _
  refine⟨(t.trans s2).trans v,(aG (λl=>{l with out:=[]}) n id).trans n,?_⟩;rw[dV,G? rfl]
 .rename_i w;exact⟨t.mono B! O?,n,ϸ w⟩
theorem UO{f:PS->Int->PS}{a b:Nat}{P:PS->Prop}(u:∀(N r:Nat) (z:PS) (id:Int),Fit N r z->P z->au z.1.links id=C?->bA (C! id) (N+a) (r+b) z (f z id)/\P (f z id)):
 ∀(t:List Int) {N r:Nat} {z:PS},Fit N r z->P z->t.Nodup->(∀i∈t,au z.1.links i=C?)->Fit (N+a*t.length) (r+b*t.length) (t.foldl f z)/\eQ z.1 (t.foldl f z).1/\P (t.foldl f z)/\(Sub z->Sub (t.foldl f z))/\(∀k,k∉t->au z.1.links k=C?->au (t.foldl f z).1.links k=C?)/\z.2.last<=(t.foldl f z).2.last
 |[],N,r,z,h,d,_,_=>⟨h,eQ.refl _,d,λh=>h,λk _ h=>h,Y! _⟩
 |i::t,N,r,z,h,d,c,g=>by
  rw[θ]at c;let⟨n,R⟩:=u N r z i h d<|g i<|x! ..;let⟨q,E,A,O,I,S⟩:=UO u t n.fit R c.2 λj m=>n.keep j (λe=>c.1<|by cases e;exact m)<|g j<|τ _ m;rw[r!];refine⟨q.mono ?_ ?_,n.grow.trans E,A,λv=>O<|n.sub v,λk w y=>I k (λe=>w<|τ _ e)<|n.keep k (λe=>w<|by cases e;exact x! ..) y,o? n.sl S⟩
  .rw[V!,Nat.mul_add];omega
  .rw[V!,Nat.mul_add];omega
theorem Ke(h:Fit N r z):(dR z.1).Nodup:=BO h.p.nd
theorem Md(h:Fit N r z):(dR z.1).length<=8:=by
 have e:=h.l8;have t:=h.p.cfg.p8;have:(dR z.1).length=z.1.links.length:=Iz _;omega
theorem SP{f:PS->Int->PS}{a b:Nat}{P:PS->Prop}(n:∀(N r:Nat) (z:PS) (id:Int),Fit N r z->P z->au z.1.links id=C?->bA (C! id) (N+a) (r+b) z (f z id)/\P (f z id))(h:Fit N r z)(t:P z):
 Fit (N+a*8) (r+b*8) ((dR z.1).foldl f z)/\eQ z.1 ((dR z.1).foldl f z).1/\P ((dR z.1).foldl f z)/\(Sub z->Sub ((dR z.1).foldl f z))/\z.2.last<=((dR z.1).foldl f z).2.last:=by
 let⟨c,u,m,g,_,w⟩:=UO n (dR z.1) h t (Ke h) λi d=>mem_row d;have e:=Md h;exact⟨c.mono (Nat.add_le_add_left (Nat.mul_le_mul_left _ e) _)<|Nat.add_le_add_left (Nat.mul_le_mul_left _ e) _,u,m,g,w⟩
theorem SQ(z:PS)(id k:Int):au (fq z id).1.links k=(!K? (k=id)&&au z.1.links k)/\au (fq z id).2.up k=(!K? (k=id)&&au z.2.up k):=by
 refine⟨?_,(vL id k).1⟩;show au (dB _ id) k=_;rw[lu];congr 1;split
 .rfl
 .split<;>rfl
theorem AX:∀(n:List Int) {z:PS},(∀k,au z.1.links k=C?->k∈n\/au z.2.up k=C?)->Sub (n.foldl (λx id=>if Uq x.2 id then x else fq x id) z)
 |[],z,h=>λk t=>(h k t).resolve_left Ξ
 |i::n,z,h=>by
  rw[r!];refine AX n λk t=>?_;by_cases d:Uq z.2 i=C?
  .rw[G? d]at t|-;rcases h k t with e|e
   .rcases n!.1 e with rfl|e
    .exact .inr d
    .exact .inl e
   .exact .inr e
  .rw[F! d]at t|-;let⟨c,u⟩:=SQ z i k;rw[c]at t;rw[u];simp only[k!,bbv,nc5]at t;rcases h k t.2 with e|e
   .rcases n!.1 e with rfl|e
    .exact absurd rfl t.1
    .exact .inl e
   .exact .inr (by simp[t.1,e])
theorem CX(h:Fit N r z):Fit (N+8) r (gW z)/\eQ z.1 (gW z).1/\Sub (gW z)/\z.2.last<=(gW z).2.last:=by
 obtain⟨t,i,_,_,n⟩:=SP (f:=λx id=>if Uq x.2 id then x else fq x id) (a:=1) (b:=0) (P:=λ_=>True) (λN r z id h _ e=>by
  refine⟨?_,trivial⟩;split
  .exact(bA.refl h _).mono B! B!
  .exact pN h id) h trivial
 exact⟨t.mono B! B!,i,AX _ λk e=>.inl<|qh.2 e,n⟩
theorem Bt(S:aU):∀(t:Nat) {p:aF} {u n:Int} {N r:Nat},Fit N r (p,S)->Sub (p,S)->(p.links.length:Int)+max u 0<=p.c.aV->p.last<n->bA L? N (r+2*u.toNat) (p,S) (pJ S t p u n,S)
 |0,p,u,n,N,r,h,c,f,d=>(bA.refl h L?).mono O? B!
 |t+1,p,u,n,N,r,h,c,f,d=>by
  unfold pJ;split
  .rename_i k;split
   .rename_i g;have m:=L9 h (id:=n) d g (by show(p.links.length:Int)+1<=p.c.aV;omega) 0 H!
    have j:((jC p n 0 H!).links.length:Int)<=p.links.length+1:=by
     have v:=tz h.p d
     have i:au ({bH p n (iU n p.c (dZ p) 0 H!)with last:=max p.last n}:aF).links n=true:=by
      show au (bI p.links n _) n=C?;rw[lq];simp
     have w:au (bC {bH p n (iU n p.c (dZ p) 0 H!)with last:=max p.last n} n 2).links n=true:=(aG (λl=>{l with phase:=2}) i n).trans i;have e:(jC p n 0 H!).links.length=(bI p.links n<|iU n p.c (dZ p) 0 H!).length:=(mK _ w).trans<|mK (λl=>{l with phase:=2}) i;rw[e,eG,F!<|by rw[v];decide];omega
    have b:(jC p n 0 H!).last<(jC p n 0 H!).last+1:=B!;have y:(jC p n 0 H!).c=p.c:=rfl;have s2:=Bt S t (p:=jC p n 0 H!) (u:=u-1) (n:=(jC p n 0 H!).last+1) m.fit (m.sub c) (by rw[y];omega) b;exact(m.trans s2).mono O? B!
   .exact Bt S t h c f B!
  .exact(bA.refl h L?).mono O? B!
section
variable(h:Fit N r z)
include h
theorem look_ok:Fit (N+8) (r+16) (vv z)/\eQ z.1 (vv z).1/\Sub (vv z)/\z.2.last<=(vv z).2.last:=by
 let⟨t,m,i,f⟩:=CX h;unfold vv;dsimp only;generalize gW z=x at t m i f|-;have y:=Br t i;have g:=t.s.up;have w:=t.po;have b:=t.p.cfg.p8
 have c:qY x.2 x.1.side=x.2.up.length:=by
  unfold qY nM;rcases t.p.sd with e|e<;>rw[e]<;>rfl
 have d:=Bt x.2 (9*65537) (p:=x.1) (u:=qY x.2 x.1.side-x.1.links.length) (n:=x.1.last+1) t i (by rw[c];omega) B!;exact⟨d.fit.mono O?<|by rw[c];omega,m.trans d.grow,d.sub i,f⟩
theorem Pn(e:Int):bA L? N r z ((nD z.1 e).1,z.2):=by
 unfold nD;dsimp only;split
 .exact gB h {h.p with} O? {eQ.refl z.1 with} rfl (λ_=>rfl) rfl
 .exact gB h {h.p with} O? {eQ.refl z.1 with} rfl (λ_=>rfl) rfl
theorem vN{t:dD}(e:xL t)(a:Int):bA L? N r z ({z.1 with jF:=a,cC:=t},z.2):=gB h {h.p with t:=e} O? {eQ.refl z.1 with} rfl (λ_=>rfl) rfl
theorem Xp:bA L? N (r+1) z (mS z.1,z.2):=by
 unfold mS;split
 .exact(bA.refl h L?).mono O? B!
 .dsimp only;have e:=vN h h.p.t.again<|z.1.now+z.1.c.restart;split
  .exact(e.trans<|Fg e.fit).mono O? B!
  .exact e.trans<|CV e.fit O?
theorem aaZ(e:Int)(t:List bD)(c:t.length<=1024)(d:0<=e/\e<=8):bA L? N (r+1) z (wF z.1 e t,z.2):=by
 unfold wF;dsimp only;have i:=h.p.t.ask e t c d;split
 .have n:=vN h i (z.1.now+z.1.c.restart);exact n.trans<|CV n.fit O?
 .exact(Fh h i).mono O? B!
theorem DJ(i:Sub z):bA L? (N+1) (r+2) z<|jr z:=by
 unfold jr;dsimp only;obtain⟨t,n⟩:∃t:Int,(if iI z.1<nZ z.1.load z.1.c.rate z.1.c.least z.1.c.links then(1:Int)else if nZ z.1.load z.1.c.rate z.1.c.least z.1.c.links<iI z.1 then-1 else 0)=t:=⟨_,rfl⟩;rw[n];have e:=Pn h t;generalize (nD z.1 t).1=d at e|-;split
 .exact(e.trans<|Xp e.fit).mono B! B!
 .split
  .exact e.mono B! B!
  .split
   .exact e.trans<|UH e.fit (e.sub i) 0
   .split
    .exact(e.trans<|aaZ e.fit 1 [] (S! _) I!).mono B! B!
    .split
     .exact(e.trans<|aaZ e.fit 5 _ (by show 1<=1024;decide) I!).mono B! B!
     .exact e.mono B! B!
theorem Hq{q:bh}(t:iq N q)(e:fN q<=fN z.1.queue):bA L? N r z ({z.1 with queue:=q},z.2):=gB h {h.p with q:=t} O? {eQ.refl z.1 with ql:=e} rfl (λ_=>rfl) rfl
end
theorem CY(t:aU):∀(n:Nat) {p:aF} {room:Int} {r:Nat},Fit N r (p,t)->au p.links id=C?->bA L? N (r+n) (p,t) (kv id n p room,t)
 |0,p,room,r,h,m=>bA.refl h L?
 |n+1,p,room,r,h,m=>by
  unfold kv;dsimp only;let⟨c,u⟩:=h.p.q.RF id;split
  .exact(Hq h c<|Int.le_of_eq u).mono O? B!
  .let⟨w,y⟩:=c.take id
   have i:=Hq h w (by
    have k:fN (bY p.queue id).1=fN p.queue:=u;have j:fN (iR (bY p.queue id).1 id).1<=fN (bY p.queue id).1:=y;show fN (iR (bY p.queue id).1 id).1<=fN p.queue;omega)
   obtain⟨e,g⟩:∃e:aF,{p with queue:=(iR (bY p.queue id).1 id).1}=e:=⟨_,rfl⟩;have d:au e.links id=true:=by rw[<-g];exact m
   simp only at i;rw[g]at i|-
   have s2:bA L? N (r+1) (e,t) (if(eU (bY p.queue id).2.1 p.c.short).2=0 then aN e id (λl=>jO l 61 (eU (bY p.queue id).2.1 p.c.short).1)else e,t)/\au (if(eU (bY p.queue id).2.1 p.c.short).2=0 then aN e id (λl=>jO l 61 (eU (bY p.queue id).2.1 p.c.short).1)else e).links id=true:=by
    split
    .exact⟨dH i.fit d (f:=λl=>jO l 61 _) B!<|(i.fit.p.link d).1.send _ _,(aG (λl=>jO l 61 _) d id).trans d⟩
    .exact⟨(bA.refl i.fit L?).mono O? B!,d⟩
   obtain⟨s2,b⟩:=s2;have v:=CY t n (room:=room-(bY p.queue id).2.1.d.size) s2.fit b;exact((i.trans s2).trans v).mono O? B!
theorem Kf(t:List Int)(S:aU):∀(n:List Nat) {p:aF} {r:Nat},Fit N r (p,S)->(∀i∈t,au p.links i=C?)->(t=[]->n=[])->
 bA L? N (r+8*n.length) (p,S) (n.foldl (λp i=>let id:=t.getD ((i+p.now.toNat)%t.length) 0;if(lk p id).dF then kv id 8 p p.c.rate else p) p,S)
 |[],p,r,h,d,m=>bA.refl h L?
 |i::n,p,r,h,d,m=>by
  have f:t≠[]:=λe=>by have:=m e;cases this
  have y:=ϛ.2 f
  have w:t.getD ((i+p.now.toNat)%t.length) 0∈t:=by
   have u:=x? (i+p.now.toNat) y;rw[ba1,ο u];exact l! u
  rw[r!]
  have c:bA L? N (r+8) (p,S) (if(lk p<|t.getD ((i+p.now.toNat)%t.length) 0).dF then kv (t.getD ((i+p.now.toNat)%t.length) 0) 8 p p.c.rate else p,S):=by
   split
   .exact CY S 8 h<|d _ w
   .exact(bA.refl h L?).mono O? B!
  have s2:=Kf t S n c.fit (λj g=>c.keep j N!<|d j g)<|λe=>absurd e f;exact(c.trans s2).mono O? bab
theorem UQ(h:Fit N r z):bA L? N (r+64) z (yE z.1,z.2):=by
 have n:=Md h;unfold yE;dsimp only;have:=Kf (dR z.1) z.2 (List.range (dR z.1).length) (p:=z.1) h (λi t=>mem_row t) λe=>by rw[e];rfl
 rw[List.length_range]at this;apply bA.mono this (Y? N) (s2:=r+64);omega
theorem tD(f:aM->aM){k:Int}(e:k≠id):bt (aN p id f).links k=bt p.links k:=by
 show bt (bI p.links id _) k=_;rw[iQ,F! e]
theorem Xq(z:PS){k:Int}(e:k≠id):bt (endP z id).1.links k=bt z.1.links k:=by
 unfold endP;dsimp only
 have t:bt (aN (bC (bX (ku z.1 id) id 1 (lk z.1 id).drop) id 6) id λl=>{l with over:=(bC (bX (ku z.1 id) id 1 (lk z.1 id).drop) id 6).now+dP (bC (bX (ku z.1 id) id 1 (lk z.1 id).drop) id 6)}).links k=bt z.1.links k:=by
  rw[tD _ e];exact tD (p:=bX (ku z.1 id) id 1 (lk z.1 id).drop) (λl=>{l with phase:=6}) e
 split
 .show bt (dB _ id) k=_;rw[Fv,F! e];exact t
 .exact t
theorem Po(z:PS){k:Int}(e:k≠id):bt (kK z id).1.links k=bt z.1.links k:=by
 unfold kK;dsimp only;split
 .exact tD _ e
 .split
  .split
   .rw[Xq _ e];exact tD _ e
   .rfl
  .rfl
theorem Pp(z:PS){k:Int}(t:k≠id):bt (iM z id).1.links k=bt z.1.links k:=by
 unfold iM;dsimp only
 have e:bt (if(lk z.1 id).phase=5/\pH z.1.queue id=0 then kK z id else z).1.links k=bt z.1.links k:=by
  split
  .exact Po z t
  .rfl
 generalize (if(lk z.1 id).phase=5/\pH z.1.queue id=0 then kK z id else z)=x at e|-;by_cases i:(lk x.1 id).out≠[]
 .rw[G? i];show bt (aN _ id _).links k=_;rw[tD _ t];exact e
 .rw[F! i];exact e
theorem Kg:∀(t:List Int) {N r:Nat} {z:PS},Fit N r z->t.Nodup->(∀i∈t,au z.1.links i=C?)->(∀k,au z.1.links k=C?->k∈t\/(lk z.1 k).out=[])->
 bA L? (N+2*t.length) (r+t.length) z (t.foldl iM z)/\∀k,au (t.foldl iM z).1.links k=C?->(lk (t.foldl iM z).1 k).out=[]
 |[],N,r,z,h,_,_,d=>⟨bA.refl h L?,λk n=>(d k n).resolve_left Ξ⟩
 |i::t,N,r,z,h,f,n,d=>by
  rw[θ]at f;let⟨c,v,y⟩:=Ho h<|n i<|x! ..
  obtain⟨s2,b⟩:=Kg t c.fit f.2 (λj g=>c.keep j N!<|n j<|τ _ g) λk u=>by
   by_cases e:k=i
   .rw[e];exact .inr y
   .have m:=Pp (id:=i) z e;have w:au z.1.links k=true:=by rw[fK]at u|-;rw[<-m];exact u
    rcases d k w with h|h
    .rcases n!.1 h with rfl|h
     .exact absurd rfl e
     .exact .inl h
    .right
     unfold lk at h|-;rw[m];exact h
  rw[r!];exact⟨(c.trans s2).mono bab bab,b⟩
theorem Fit.ade(h:Fit N r z)(u:∀k,au z.1.links k=C?->(lk z.1 k).out=[]):Fit N 0 z:=
 ⟨{h.p with
   St:=λi l n=>by
    have t:=h.p.St i l n;have c:au z.1.links i=true:=dI.2<|a!.2 ⟨_,n,rfl⟩;have d:=u i c;have e:lk z.1 i=l:=by unfold lk;rw[(eA h.p.nd).2 n];rfl
    rw[e]at d;exact⟨⟨t.1.id,t.1.pf,t.1.an,t.1.a0,t.1.a1,t.1.bf,by rw[d];exact S! _,t.1.tm⟩,t.2⟩},h.s,h.la,h.po,h.l8⟩
structure ag9(p p':aF):Prop where
 c:p'.c=p.c
 side:p'.side=p.side
 IY:p'.aX=p.aX
 now:p'.now=p.now+1
 load:p'.load=p.load
 ch:∃cs,p'.changes=p.changes++cs/\∀x∈cs,x.yC=p.now
 gt:∃gs,p'.got=p.got++gs
 ql:fN p'.queue<=fN p.queue
theorem Me(h:Fit N 0 z)(random:Int)(a8:random<=4398046511104):Fit (N+600000) 0 (nu z random)/\ag9 z.1 (nu z random).1/\Sub (nu z random)/\z.2.last<=(nu z random).2.last:=by
 have Z:Fit N 0 ({z.1 with random:=max random 0},z.2):=⟨{h.p with r0:=(by show 0<=max random 0;omega),r1:=(by show max random 0<=_;omega)},h.s,h.la,h.po,h.l8⟩;unfold nu;dsimp only;let⟨I,D,R,A⟩:=look_ok Z;generalize vv ({z.1 with random:=max random 0},z.2)=K at I D R A|-;let⟨S,C,H,_,Y⟩:=SP (f:=rN) (a:=71680) (b:=215040) (P:=Sub) (λN r z id h u t=>⟨Fj h u t,(Fj h u t).sub u⟩) I R;generalize (dR K.1).foldl rN K=O at S C H Y|-;obtain⟨y,a5⟩:∃y,y=N+573448:=⟨_,rfl⟩;obtain⟨v,a9⟩:∃v:Nat,v=1720336:=⟨_,rfl⟩;have X:Fit y v O:=S.mono B! B!;let⟨q,F,E,_,B⟩:=SP (f:=rV) (a:=2) (b:=1) (P:=Sub) (λN r z id h u t=>⟨Mc h t,(Mc h t).sub u⟩) X H;generalize (dR O.1).foldl rV O=j at q F E B|-;let⟨d,G⟩:=F?<|if j.1.aX then jr j else j
 have k:bA L? (y+2*8+1) (v+1*8+2) j d:=by
  rw[<-G];split
  .exact DJ q E
  .exact(bA.refl q L?).mono B! B!
 rw[G];have i:=UQ k.fit;have L:=i.sub<|k.sub E;obtain⟨n,W⟩:∃n:PS,(yE d.1,d.2)=n:=⟨_,rfl⟩;rw[W]at i L;let⟨m,V⟩:=Kg (dR n.1) i.fit (Ke i.fit) (λaa a0=>mem_row a0) λab t=>.inl<|qh.2 t;have a4:=Md i.fit;have e:(dR<|yE d.1).foldl iM (yE d.1,d.2)=(dR n.1).foldl iM n:=by rw[<-W]
 rw[e];generalize (dR n.1).foldl iM n=w at m V|-;have Q:=(m.fit.mono (M:=N+599999) (s:=_) B! O?).ade V;have g:eQ {z.1 with random:=max random 0} w.1:=((((D.trans C).trans F).trans k.grow).trans i.grow).trans m.grow;have c:=Q.mono (M:=N+600000) B!<|Y? 0;have J:w.1.now=z.1.now:=g.now;have a7:=h.p.n1;have a6:=h.p.n0;refine⟨⟨{c.p with n0:=(by show 0<=w.1.now+1;omega),n1:=(by show w.1.now+1<=((N+600000:Nat):Int);omega)},c.s,c.la,c.po,c.l8⟩,⟨g.c,g.side,g.IY,by show w.1.now+1=_;rw[J],g.load,g.ch,g.gt,g.ql⟩,m.sub L,?_⟩;have a1:=k.sl;have a2:=i.sl;have a3:=m.sl;simp only at A;exact o? A<|o? Y<|o? B<|o? a1<|o? a2 a3
theorem Kh(h:Fit N r z)(s:ByteArray):Fit (N+1) r ((bE z.1 s).1,z.2)/\((bE z.1 s).2=0->fN (bE z.1 s).1.queue<=z.1.c.cv)/\((bE z.1 s).2≠0->fN (bE z.1 s).1.queue=fN z.1.queue):=by
 have i:=h.mono (M:=N+1) B!<|Y? r;unfold bE;split
 .exact⟨i,(λe=>ϱ),λ_=>rfl⟩
 .split
  .exact⟨i,(λe=>ϱ),λ_=>rfl⟩
  .rename_i u;have c:=h.p.q.RG s;refine⟨⟨{i.p with q:=c},i.s,i.la,i.po,i.l8⟩,λe=>?_,λe=>?_⟩
   .show fN (ig z.1.queue s).1<=z.1.c.cv;have t:(ig z.1.queue s).2=0:=e;unfold ig at t|-;split at t
    .cases t
    .split at t
     .cases t
     .rename_i n d;rw[F! n,F! d];unfold fN at u|-;show(((z.1.queue.bB++[s]).length:Nat):Int)+(z.1.queue.opn.length:Nat)<=_;exact mcP
   .show fN (ig z.1.queue s).1=fN z.1.queue;have t:(ig z.1.queue s).2≠0:=e;unfold ig at t|-;split at t
    .rename_i n;rw[G? n]
    .split at t
     .rename_i n d;rw[F! n,G? d]
     .exact absurd rfl t
