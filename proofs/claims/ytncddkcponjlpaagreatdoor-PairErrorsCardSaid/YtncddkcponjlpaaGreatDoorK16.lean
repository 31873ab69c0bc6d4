/- Walks and plain laws. -/
import Derived.Test.YtncddkcponjlpaaGreatDoorK11
import Derived.Test.YtncddkcponjlpaaGreatDoorK15
set_option linter.unusedVariables false
set_option linter.unusedSimpArgs false
set_option maxHeartbeats 0
set_option maxRecDepth 99999
namespace Go.Proofs.YtncddkcponjlpaaGreatDoor
open Go.RowKit Go.Proofs.Tryz
open Go renaming World→D!,Value→I?,Calls→G!,IntKind→ncy
open Go.RowKit renaming Hid→E!
open Decidable renaming decide→K?
open Option renaming some→C!,none→L?
open Bool renaming true→C?,false→H!
open Go.Proofs.Tryz renaming prog→E?
variable{P:Prop}
variable{N s r M M2 s2:Nat}{p:aF}{id:Int}{z z' z2:PS}{o:Option Int}
section
variable{w w1:D!}{G G1:Nat->Tag}{t:Tag}{b:Nat}{m m':bh}
def ky{P:Program}{e:Type}(E:Elem P e)(w:D!)(n:Nat)(v:I?)(l:List e):Prop:=jd E w v l/\∀k,v.ownBlock=C! k->n<=k/\k<w.heap.size
section
variable{P:Program}{α:Type}{E:Elem P α}{n:Nat}{v:I?}{l:List α}
theorem ky.nil(E:Elem P α)(w:D!)(n:Nat):ky E w n Q! []:=⟨jd.nil _ _,λk hk=>o!⟩
theorem ky.below(h:ky E w n v l)(i:K! w w1):ky E w1 n v l:=⟨h.1.heap λk e=>i.block k (h.2 k e).2,λk e=>⟨(h.2 k e).1,Z! (h.2 k e).2 i.size⟩⟩
theorem ky.only{S:Nat->Prop}(h:ky E w n v l)(i:Only S w w1)(d:∀k,v.ownBlock=C! k->¬S k):ky E w1 n v l:=⟨h.1.heap λk e=>i.block k (h.2 k e).2<|d k e,λk e=>⟨(h.2 k e).1,Z! (h.2 k e).2 i.size⟩⟩
theorem jd.src(h:jd E w v l):Src P E.size E.tS v l.length (l.flatMap E.enc) w:=by
 by_cases f:l=[]
 .subst f;obtain⟨a,c,rfl,-,-⟩:=h.form;cases a with
  |none=>exact Src.ofNil _ E.und c
  |some a=>exact bb0 _ E.und a 0 c [] N! (λj u hu=>by simp at hu) (λu hu=>by cases hu)
 .rcases h.seq f with⟨rfl,rfl⟩|⟨g,S,c,rfl,q,A,I,k⟩
  .exact Src.ofNil _ E.und 0
  .refine bb0 _ E.und _ _ c _ (E.length l) (λj u hu=>?_) (E.ach l)
   have hj:j<l.length*E.size:=by
    exact mdO
   have O:=bcr j E.size;have y:=x? j E.pos;have i:=mbN mdA;have d:j=j/E.size*E.size+j%E.size:=mbm;have e:=k (j/E.size) i (j%E.size) y;rw[<-E.at l (j/E.size) i (j%E.size) y,<-d,hu,bah,<-d]at e;rw[maH];exact e
theorem ky.app{i:I?}{d:List α}(h:ky E w n v l)(f:jd E w1 i d)(u:Only (λk=>v.ownBlock=C! k) w w1)(g:∀k,i.ownBlock=C! k->v.ownBlock=C! k\/(w.heap.size<=k/\k<w1.heap.size))(y:n<=w.heap.size):ky E w1 n i d:=
 ⟨f,λk c=>by
   rcases g k c with e|e
   .have:=h.2 k e;have:=u.size;omega
   .omega⟩
end
theorem ZN{x:EM}(d:Int)(h:cN w G t b x m)(bj:m.lanes.length<=1048576):
 G! E? 254 #[ptr b,A! d] w λe c6=>∃v,e=.returned v/\ky DZ c6 w.heap.size v ((jN m d).map x.f)/\K! w c6:=by
 have a0:=h.blk.k 6;have dd:=h.ml.lt;have a2:=A? h.nodup
 have bc:E! (∀k l,(k,l)∈m.lanes->w.cell? (B? (x.f k) 1)=C! (H? l.drains)):=A? (λk l hk=>by
  let⟨v,co⟩:=h.lane k l hk;exact co.blk.cell 1)
 have b9:=A? h;clear h;unfold ptr;go_in;go_wp2_with(refine jH rfl _ rfl underlying135 b9.ml rfl λw1 hi cj br cr=>?_);have be:=a0;clear a0;simp only[Act.put,υ,ϑ,ϊ];go_loopw[5,6] (λad c5 wr=>∃(left:KV fk) (A B:List Int),gP wr w.heap.size x.ml (dY (λk _=>ptr<|x.f k) left)/\ky mU wr (w.heap.size+1) ad A/\ky mU wr (w.heap.size+1) c5 B/\E! (∀k,ad.ownBlock=C! k->c5.ownBlock≠C! k)/\K! w wr/\E! ((left.map (·.1)).Nodup)/\E! (∀y∈left,y∈m.lanes)/\E! (A.Perm<|jY m.lanes left<|tQ d C?)/\E! (B.Perm<|jY m.lanes left<|tQ d H!)) (λ_ _ wr=>Ei wr w.heap.size x.ml)
 case atStart=>exact⟨m.lanes,[],[],hi,ky.nil _ _ _,ky.nil _ _ _,A? (λk hk=>o!),br,a2,A? (λy K=>K),A?<|by rw[GG],A?<|by rw[GG]⟩
 case round=>
  obtain⟨left,A,B,ab,Y,a8,L,Z,hnd,a4,V,W⟩:=hrel;have F:=iB ab;clear hi cj;have a0:=aw Z be
  have ba:E! ((A.length+1)*mU.bytes<=140737488355328):=A? (by
   have:=V.out.length_eq;have:=uf m.lanes left<|tQ d C?;show(A.length+1)*8<=_;omega)
  have bk:E! ((B.length+1)*mU.bytes<=140737488355328):=A? (by
   have:=W.out.length_eq;have:=uf m.lanes left<|tQ d H!;show(B.length+1)*8<=_;omega)
  go_wp2_with(first
   |(refine kF rfl _ rfl ab bbk rfl (λbs=>?_) (λk v df hk c2 ac cv=>?_)
     rotate_left
     obtain⟨l,b1,rfl⟩:=vF hk;have H:=Z.trans<|ac.below Z.size λb e=>bbW;have g:=Y.only ac λj n e=>by have:=(Y.2 j n).1;omega
     have E:=a8.only ac λj n e=>by have:=(a8.2 j n).1;omega
     have ap:=a4.out _ b1;have db:=aw H<|bc k l ap;have X:=A? c2;have ag:=A? ap;have J:=A? b1;clear ac hk c2 ap b1 cv
     rotate_left)
   |(apply iD rfl _ rfl X rfl;unfold ptr)
   |(at_builtin
     have a7:k<d:=baI;refine dz mU rfl _ _ rfl _ A k _ g.1 (λj n=>(g.2 j n).2) rfl _ rfl rfl ba I! λb7 d3 b3 O a5=>?_)
   |(at_builtin
     have d8:d<=k:=B!;refine dz mU rfl _ _ rfl _ B k _ E.1 (λj n=>(E.2 j n).2) rfl _ rfl rfl bk I! λb7 d3 b3 O a5=>?_))
  rotate_left
  .rename_i I;have D:=λq=>zV q (dI.2<|a!.2 ⟨_,J,rfl⟩) m.lanes a2 ag;have u:=X.1;rw[fZ]at u;have c0:=mH hnd.out J;go_roundw
   case rel=>
    refine⟨dB left k,A,B,u,g,E,L,H,A?<|fM hnd.out k,A? (λy K=>a4.out y<|lF K),A?<|V.out.trans ?_,A?<|W.out.trans ?_⟩
    .have:=D (tQ d C?);rw[F!<|by simp[tQ,I],baj]at this;exact this.symm
    .have:=D (tQ d H!);rw[F!<|by simp[tQ,I],baj]at this;exact this.symm
   case measure=>
    have f:=iB u;rw[dN]at f F;rw[f,F];omega
  .have I:l.drains=false:=baI;have D:=λq=>zV q (dI.2<|a!.2 ⟨_,J,rfl⟩) m.lanes a2 ag;have av:=H.trans (O.below H.size λj n=>by have:=(g.2 j n).1;omega);have u:=X.1.only O (λe=>by have:=(g.2 _ e).1;omega) (λe=>by have:=(g.2 _ e).1;omega);rw[fZ]at u;have c0:=mH hnd.out J;have ck:=H.size;have am:=g.app b3 O a5 (by have:=u.lt.1;have:=X.1.lt.1;omega);have an:=E.only O λj n e=>L.out j e n;go_roundw
   case rel=>
    refine⟨dB left k,_,B,u,am,an,A? (λj n e=>?_),av,A?<|fM hnd.out k,A? (λy K=>a4.out y<|lF K),A? ?_,A?<|W.out.trans ?_⟩
    .rcases a5 j n with S|S
     .exact L.out j S e
     .have:=(E.2 j e).2;omega
    .have:=D (tQ d C?);rw[G?<|by simp[tQ,I,a7]]at this;exact(V.out.append_right [k]).trans this.symm
    .have:=D (tQ d H!);rw[F!<|by simp[tQ,I,a7],baj]at this;exact this.symm
   case measure=>
    have f:=iB u;rw[dN]at f F;rw[f,F];omega
  .have I:l.drains=false:=baI;have a7:¬k<d:=B!;have D:=λq=>zV q (dI.2<|a!.2 ⟨_,J,rfl⟩) m.lanes a2 ag;have av:=H.trans (O.below H.size λj n=>by have:=(E.2 j n).1;omega);have u:=X.1.only O (λe=>by have:=(E.2 _ e).1;omega) (λe=>by have:=(E.2 _ e).1;omega);rw[fZ]at u;have c0:=mH hnd.out J;have ck:=H.size;have an:=E.app b3 O a5 (by have:=u.lt.1;have:=X.1.lt.1;omega);have am:=g.only O λj n e=>L.out j n e;go_roundw
   case rel=>
    refine⟨dB left k,A,_,u,am,an,A? (λj n e=>?_),av,A?<|fM hnd.out k,A? (λy K=>a4.out y<|lF K),A?<|V.out.trans ?_,A? ?_⟩
    .rcases a5 j e with S|S
     .exact L.out j n S
     .have:=(g.2 j n).2;omega
    .have:=D (tQ d C?);rw[F!<|by simp[tQ,I,a7],baj]at this;exact this.symm
    .have:=D (tQ d H!);rw[G?<|by simp[tQ,I];omega]at this;exact(W.out.append_right [k]).trans this.symm
   case measure=>
    have f:=iB u;rw[dN]at f F;rw[f,F];omega
  .have b2:=tf bs;have cc:A.length<=1048576:=by rw[V.out.length_eq];exact Z? (uf _ _ _) bj
   have cd:B.length<=1048576:=by rw[W.out.length_eq];exact Z? (uf _ _ _) bj
   have al:E!<|jN m d=gz B++gz A:=A?<|LP (by rw[<-b2];exact V.out)<|by rw[<-b2];exact W.out
   have ce:=ab.lt.1;clear V W hnd a4 F bs b2 ab ba bk;apply(JW Y.1 B!).mono;rintro e d4 ⟨rfl,c3,a3⟩;have bf:ky mU d4 (w.heap.size+1) u5<|gz A:=⟨c3,λj n=>⟨(Y.2 j n).1,Z! (Y.2 j n).2 a3.size⟩⟩;have a1:=a8.only a3 λj n e=>L.out j e n;have ax:=Z.trans (a3.below Z.size λj n=>by have:=(Y.2 j n).1;omega);clear Y a8 c3;go_wp2_with fail;apply(JW a1.1 B!).mono;rintro e c7 ⟨rfl,c4,a6⟩;have ao:ky mU c7 (w.heap.size+1) u6<|gz B:=⟨c4,λj n=>⟨(a1.2 j n).1,Z! (a1.2 j n).2 a6.size⟩⟩;have bi:=bf.only a6 λj n e=>L.out j n e;have aa:=ax.trans (a6.below ax.size λj n=>by have:=(a1.2 j n).1;omega);have cn:=aa.size;have cy:w.heap.size+1<=c7.heap.size:=by have:=a3.size;have:=a6.size;omega
   have bl:E! (((gz B).length+(gz A).length)*mU.bytes<=140737488355328):=A? (by
    have f:(gz B).length=B.length:=bb7 _;have S:(gz A).length=A.length:=bb7 _;show(_+_)*8<=_;omega)
   clear bf a1 ax c4 a3 a6;go_wp2_with(at_builtin;refine oI mU rfl _ _ rfl _ _ (gz B) (gz A) ao.1 rfl rfl bi.1.src bl I! λb7 ae b4 c1 cp=>?_;obtain⟨ad,de,rfl,d5,d6⟩:=b4.form);have az:=aa.trans (c1.below aa.size λj n=>by have:=(ao.2 j n).1;omega);have b0:∀k∈gz B++gz A,au m.lanes k=true:=λk hk=>oT (by rw[al.out];exact hk)
   have b6:(gz B++gz A)=[]\/∃Q C,ad=C! (B? Q C)/\Q<ae.heap.size/\∀j (n:j<(gz B++gz A).length),ae.cell? (B? Q<|C+j)=N? ((gz B++gz A)[j]):=by
    by_cases bz:(gz B++gz A)=[]
    .exact .inl bz
    .let⟨Q,C,d9,e,f,S,cf,ch⟩:=b4.cell bz;simp only[ba9]at e;refine .inr ⟨Q,C,e.1,cf,λj n=>?_⟩;have:=ch j n 0 I!;rw[show C+j*mU.size+0=C+j from by show C+j*1+0=_;omega]at this;exact this
   have b8:(gz B++gz A).length<=2097152:=by
    have f:(gz B).length=B.length:=bb7 _;have S:(gz A).length=A.length:=bb7 _;rw[X!];omega
   let⟨N,ar⟩:=F?<|(gz B).length+(gz A).length;have bm:((gz B).length:Int)+((gz A).length:Int)=(N:Int):=B!;have a9:(gz B++gz A).length=N:=by rw[X!,ar]
   rw[ar,bm];generalize gz B++gz A=R at al b0 b6 b8 a9;have b5:=az.size;have c9:=A? b6;have c8:=A? b0;have HN:=A? a9;rw[a9]at b8;clear b6 b0 b4 c1 cp bi ao aa bl d5 d6 cn cy bc L;clear br a2 cc cd ce cr Z a0 ar bm a9;go_loopw[9,47] (λv i wr=>∃j:Nat,j<=N/\i=A! j/\ky DZ wr ae.heap.size v ((R.take j).map x.f)/\K! ae wr) (λ_ i _=>N-(intOf i).toNat)
   case atStart=>exact⟨0,S! _,rfl,ky.nil _ _ _,P! _ _⟩
   case round=>
    obtain⟨j,n,rfl,hown,hbr⟩:=hrel;by_cases tN:j<N
    .rcases c9 with e|⟨Q,C,rfl,da,hcell⟩
     .have:=HN.out;rw[e]at this;simp at this;omega
     have uL:j<R.length:=mcJ;have d0:=aw hbr<|hcell j uL;have bx:=c8 _<|l! uL;have bd:=az.trans<|hbr.mono b5;have a0:=aw bd be
     have ci:(Instr.lookup 135 (.map<|C! x.ml) (A! R[j]) H!).run E? wr=.ok (P?<|x.f R[j]) wr:=by
      have:=nQ (b9.ml.below bd) underlying135 underlying3 π R[j];rw[bx,G? rfl]at this;exact this
     have HT:E!<|(R.take<|j+1).map x.f=(R.take j).map x.f++[x.f R[j]]:=A? ncV
     have cb:E! ((((R.take j).map x.f).length+1)*DZ.bytes<=140737488355328):=A? (by
      rw[g!,w!];show(_+1)*8<=_;omega)
     generalize R[j]=ca at d0 ci HT;clear hcell bx;go_wp2_with(at_builtin;refine dz DZ rfl _ _ rfl _ ((R.take j).map x.f) (x.f ca) _ hown.1 (λi hi=>(hown.2 i hi).2) rfl _ rfl rfl cb I! λb7 dh hq7 ho7 hw7=>?_);exact nax
    .obtain rfl:j=N:=B!;obtain⟨d1,d2,rfl,-,-⟩:=hown.1.form;have bo:R.take j=jN m d:=by rw[<-HN.out,v!,al.out]
     have d7:=A? hown;have bv:ky DZ wr w.heap.size (J! d1 ((R.take j).map x.f).length d2)<|(jN m d).map x.f:=⟨by rw[<-bo];exact hown.1,λi hi=>⟨Z? b5 (hown.2 i hi).1,(hown.2 i hi).2⟩⟩;have cz:=A? bv;clear bo bv hown;go_wp2;go_ret;exact⟨_,rfl,cz,az.trans<|hbr.mono b5⟩
end
def LU(w:D!)(g o:Nat)(l:List Nat):Prop:=∀j (h:j<l.length),L! w g (o+j) (.int .u32 (l[j]:Int))
theorem Sc(l:List Nat):(l.flatMap le4).length=4*l.length:=by
 induction l with
 |nil=>rfl
 |cons a l e=>rw[ϐ,X!,e,V!];simp[le4];omega
theorem WM(x:Nat):(Lib.byteCells<|le4 x).toArray= #[.int .u8<|(x:Int)%256,.int .u8<|(x:Int)/256%256,.int .u8<|(x:Int)/65536%256,.int .u8<|(x:Int)/16777216%256]:=by
 simp only[le4,Lib.byteCells,i?,y!]
 have h:∀y:Nat,((UInt8.ofNat<|y%256).toNat:Int)=(y:Int)%256:=λy=>by
  rw[UInt8.toNat_ofNat',Nat.mod_mod_of_dvd _ I!];omega
 rw[h,h,h,h];rfl
theorem GQ(g o c:Nat)(l:List Nat)(w:D!)(R:l.length<=1000)(A:l.length<=c)(b:c<=maxLen)(q:LU w g o l)(k:g<w.heap.size):
 G! E? 297 #[J! (C!<|B? g o) l.length c] w (S? w<|D?<|bytesOf<|l.flatMap le4):=by
 have O:c<=9223372036854775807:=by unfold maxLen at b;omega
 go_wp2
 go_loopw[3,8] (λv i wr=>∃(j:Nat) (t:List UInt8),j<=l.length/\i=A! j/\E! (t=(l.take j).flatMap le4)/\Own wr w.heap.size v t/\K! w wr) (λ_ i _=>l.length-(intOf i).toNat)
 case atStart=>exact⟨0,[],S! _,rfl,A? rfl,Own.nil _ _,P! _ _⟩
 case round=>
  obtain⟨j,t,S,rfl,n,m,d⟩:=hrel;obtain⟨D,C,rfl⟩:=m.form;by_cases u:j<l.length
  .have z:=(d.cell (p:=B? g<|o+j) k).trans (q j u);have f:E!<|t++le4 l[j]=(l.take<|j+1).flatMap le4:=A? (by rw[n.out,u! u,ϣ];simp);generalize l[j]=x at z f;have H:t.length<=4000:=by rw[n.out,Sc,w!];omega
   go_wp2_with(at_builtin;refine mw rfl _ _ rfl w _ _ (le4 x) 4 _ _ m rfl rfl (WM x).symm rfl (by simp[le4];omega) d ?_;intro L w1 E y);go_roundw
   case rel=>exact⟨j+1,_,u,W!,f,E,y⟩
   case measure=>simp[intOf];omega
  .obtain rfl:j=l.length:=B!;have e:E!<|t=l.flatMap le4:=A? (by rw[n.out,u?<|Y? _]);have I:=m.conv;go_wp2;go_ret;exact⟨by rw[<-e.out];rfl,d⟩
section
structure jt(N:Nat)(most:Int)(p:xh):Prop where
 b0:0<=p.bytes
 b1:p.bytes<=most
 lo:0<=p.lost
 ln:p.lost<=N
 pc:p.pieces.length<=N
 sm:((p.pieces.flatMap (·.1)).length:Int)=p.bytes
structure jZ(N:Nat)(s:aU):Prop where
 p1:1<=s.aV
 p8:s.aV<=8
 mo:s.most=65536
 l0:0<=s.last
 ln:s.last<=N
 o0:0<=s.sO
 o1:s.sO<=9223372036854775807
 up:(s.up.length:Int)<=s.aV
 nd:(s.up.map (·.1)).Nodup
 key:∀k c,(k,c)∈s.up->1<=k/\k<=s.last
 Ss:∀k c,(k,c)∈s.up->jt N 65536 c.p0/\jt N 65536 c.p1
variable{s:aU}{k most:Int}{p:xh}
theorem jt.mono(h:jt N most p){M:Nat}(e:N<=M):jt M most p:=⟨h.b0,h.b1,h.lo,by have:=h.ln;omega,Z? h.pc e,h.sm⟩
theorem jt.zz(N:Nat):jt N 65536 YX:=⟨Y! 0,(by show(0:Int)<=65536;decide),Y! 0,(by show(0:Int)<=N;omega),S! _,rfl⟩
theorem jZ.mono(h:jZ N s){M:Nat}(e:N<=M):jZ M s:=
 ⟨h.p1,h.p8,h.mo,h.l0,by have:=h.ln;omega,h.o0,h.o1,h.up,h.nd,h.key,λk c t=>⟨(h.Ss k c t).1.mono e,(h.Ss k c t).2.mono e⟩⟩
theorem jZ.new(p:Int)(e:1<=p)(t:p<=8):jZ 0<|sw p 65536:=
 ⟨e,t,rfl,Y! 0,Y! 0,Y! 0,ma1,(by show((0:Nat):Int)<=p;omega),baT,(λk c h=>absurd h Ξ),(λk c h=>absurd h Ξ)⟩
theorem jZ.pipe(h:jZ N s)(c i:Int):jt N 65536<|fP s c i:=by
 unfold fP;cases e:bt s.up c with
 |none=>
  show jt N 65536 (kI.pipe i);unfold mB.pipe;split<;>exact jt.zz N
 |some x=>
  have:=h.Ss c x<|(eA h.nd).1 e;show jt N 65536 (x.pipe i);unfold mB.pipe;split
  .exact this.1
  .exact this.2
theorem jZ.put(h:jZ N s){c i:Int}{M:Nat}(u:N<=M)(t:au s.up c=C?){q:xh}(d:jt M 65536 q):jZ M<|tO s c i q:=by
 have n:=h.mono u;refine⟨h.p1,h.p8,h.mo,h.l0,n.ln,h.o0,h.o1,?_,fL h.nd _ _,λk x e=>?_,λk x e=>?_⟩
 .show((bI s.up c _).length:Int)<=s.aV;rw[eG,G? t];exact h.up
 .rcases iA e with⟨rfl,rfl⟩|⟨_,e⟩
  .rw[dI]at t;obtain⟨⟨a,b⟩,m,rfl⟩:=a!.1 t;exact h.key _ _ m
  .exact h.key k x e
 .rcases iA e with⟨rfl,rfl⟩|⟨_,e⟩
  .have l:jt M 65536 ((bt s.up k).getD kI).p0/\jt M 65536 ((bt s.up k).getD kI).p1:=by
    cases f:bt s.up k with
    |none=>exact⟨jt.zz M,jt.zz M⟩
    |some x=>exact n.Ss k x<|(eA h.nd).1 f
   unfold mB.put;split
   .exact⟨d,l.2⟩
   .exact⟨l.1,d⟩
  .exact n.Ss k x e
theorem sB{c i:Int}(h:eH s c i=0):au s.up c=C?/\nM i=true:=by
 unfold eH at h;split at h
 .cases h
 .rename_i t;split at h
  .cases h
  .rename_i n;exact⟨by cases e:au s.up c with|true=>rfl|false=>exact absurd e t,by cases e:nM i with|true=>rfl|false=>exact absurd e n⟩
theorem jZ.aff(h:jZ N s)(c:Int):jZ N (iT s c).1:=by
 unfold iT;split
 .refine⟨h.p1,h.p8,h.mo,h.l0,h.ln,h.o0,h.o1,?_,fM h.nd _,λk x e=>h.key k x (vH e).2,λk x e=>h.Ss k x (vH e).2⟩;have t:=kN s.up c;have i:=h.up;show((dB s.up c).length:Int)<=s.aV;omega
 .exact h
theorem jZ.aiF(h:jZ N s)(a b:Int):jZ (N+1) (lz s a b).1:=by
 unfold lz;split
 .exact h.mono B!
 .split
  .exact h.mono B!
  .rename_i c;split
   .rename_i d;exact{h.mono (M:=N+1) B! with o0:=(by show 0<=s.sO-1;omega),o1:=(by have:=h.o1;show s.sO-1<=_;omega)}
   .have i:=h.mono (M:=N+1) B!
    have n:au s.up (s.last+1)=false:=by
     cases e:au s.up (s.last+1)with
     |false=>rfl
     |true=>
      let⟨⟨x,y⟩,l,t⟩:=a!.1<|dI.1 e;simp only at t;have:=h.key x y l;omega
    refine⟨h.p1,h.p8,h.mo,(by have:=h.l0;show 0<=s.last+1;omega),(by have:=h.ln;show s.last+1<=((N+1:Nat):Int);omega),h.o0,h.o1,?_,fL h.nd _ _,λk x t=>?_,λk x t=>?_⟩
    .show((bI s.up (s.last+1) kI).length:Int)<=s.aV;rw[eG,F!<|by rw[n];decide];have:=h.up;omega
    .show 1<=k/\k<=s.last+1;rcases iA t with⟨rfl,rfl⟩|⟨_,t⟩
     .have:=h.l0;omega
     .have:=h.key k x t;omega
    .rcases iA t with⟨rfl,rfl⟩|⟨_,t⟩
     .exact⟨jt.zz _,jt.zz _⟩
     .exact i.Ss k x t
theorem jZ.send(h:jZ N s)(c i:Int)(d:ByteArray):jZ (N+1) (kB s c i d).1:=by
 have n:=h.mono (M:=N+1) B!;have hp:=h.pipe c i;unfold kB;dsimp only;split
 .exact n
 .rename_i l;let⟨t,u⟩:=sB<|ϸ l;split
  .exact n
  .rename_i f;split
   .rename_i g;exact h.put B! t ⟨hp.b0,hp.b1,(by show 0<=(fP s c i).lost-1;omega),(by have:=hp.ln;show(fP s c i).lost-1<=((N+1:Nat):Int);omega),nbm,hp.sm⟩
   .have m:=hp.b0;refine h.put B! t ⟨(by show 0<=(fP s c i).bytes+(d.size:Int);omega),(by have:=h.mo;show(fP s c i).bytes+(d.size:Int)<=65536;omega),hp.lo,(by have:=hp.ln;show(fP s c i).lost<=((N+1:Nat):Int);omega),?_,?_⟩
    .have:=hp.pc;show(_++[_]).length<=_;exact mcP
    .have:=hp.sm;show((((fP s c i).pieces++[(d.data.toList,H!)]).flatMap<|λx:List UInt8×Bool=>x.1).length:Int)=(fP s c i).bytes+(d.size:Int);rw[ϣ,X!];have e:(List.flatMap (λx:List UInt8×Bool=>x.1) [(d.data.toList,H!)]).length=d.size:=N!;rw[e];omega
theorem jZ.read(h:jZ N s)(c t:Int):jZ N (nr s c t).1:=by
 have e:=h.pipe c<|1-t;unfold nr;dsimp only;split
 .exact h
 .rename_i n;let⟨i,l⟩:=sB<|ϸ n;exact h.put O? i ⟨Y! 0,(by show(0:Int)<=65536;decide),e.lo,e.ln,S! _,rfl⟩
theorem J8(h:jZ N s)(c t:Int):(nr s c t).2.1.length<=65536:=by
 have e:=h.pipe c<|1-t;unfold nr;dsimp only;split
 .exact S! _
 .have i:=e.sm;have n:=e.b1;show(List.flatMap _ _).length<=_;omega
theorem jZ.aiG(h:jZ N s)(c i:Int):jZ (N+1) (rM s c i).1:=by
 have hp:=h.pipe c i;unfold rM;split
 .exact h.mono B!
 .rename_i t;let⟨e,n⟩:=sB<|ϸ t;exact h.put B! e ⟨hp.b0,hp.b1,(by have:=hp.lo;show 0<=(fP s c i).lost+1;omega),(by have:=hp.ln;show(fP s c i).lost+1<=((N+1:Nat):Int);omega),nbm,hp.sm⟩
theorem O5(d:List UInt8)(e:Nat):(mR d e).length=d.length:=by unfold mR;split;rfl;rw[bcx]
theorem AU(e:Nat):∀l:List<|List UInt8×Bool,(gV e l).length=l.length/\((gV e l).flatMap (·.1)).length=(l.flatMap (·.1)).length
 |[]=>⟨rfl,rfl⟩
 |x::l=>by
  let⟨t,i⟩:=AU e l;unfold gV;split
  .rw[V!,V!,ϐ,ϐ,X!,X!];omega
  .rw[V!,V!,ϐ,ϐ,X!,X!];refine⟨rfl,?_⟩;show(mR x.1 e).length+_=_;rw[O5]
theorem jZ.turn(h:jZ N s)(c i t:Int):jZ N (lX s c i t).1:=by
 have e:=h.pipe c i;unfold lX;split
 .exact h
 .rename_i l;let⟨n,d⟩:=sB<|ϸ l;split
  .exact h
  .let⟨u,m⟩:=AU t.toNat (fP s c i).pieces;refine h.put O? n ⟨e.b0,e.b1,e.lo,e.ln,?_,?_⟩
   .have:=e.pc;show(gV t.toNat (fP s c i).pieces).length<=_;omega
   .have:=e.sm;show(((gV t.toNat (fP s c i).pieces).flatMap (·.1)).length:Int)=(fP s c i).bytes;omega
theorem jZ.fail(h:jZ N s)(e:Int)(t:e<=9223372036854775807):jZ N (vl s e).1:=by
 unfold vl;split
 .exact h
 .rename_i i;exact{h with o0:=(by show 0<=e;omega),o1:=t}
theorem UG(c i:Int)(q:xh)(t:au s.up c=C?)(k:Int):au (tO s c i q).up k=au s.up k:=by
 show au (bI s.up c _) k=_;rw[lq];by_cases e:k=c
 .subst e;rw[t];simp
 .simp[e]
theorem O6(c i:Int)(d:ByteArray)(k:Int):au (kB s c i d).1.up k=au s.up k/\(kB s c i d).1.aV=s.aV/\(kB s c i d).1.last=s.last:=by
 unfold kB;dsimp only;split
 .exact⟨rfl,rfl,rfl⟩
 .rename_i t;let⟨e,n⟩:=sB<|ϸ t;split
  .exact⟨rfl,rfl,rfl⟩
  .split<;>exact⟨UG _ _ _ e _,rfl,rfl⟩
theorem O7(c t:Int)(k:Int):au (nr s c t).1.up k=au s.up k/\(nr s c t).1.aV=s.aV/\(nr s c t).1.last=s.last:=by
 unfold nr;dsimp only;split
 .exact⟨rfl,rfl,rfl⟩
 .rename_i i;let⟨e,n⟩:=sB<|ϸ i;exact⟨UG _ _ _ e _,rfl,rfl⟩
theorem vL(c:Int)(k:Int):au (iT s c).1.up k=(!K? (k=c)&&au s.up k)/\(iT s c).1.aV=s.aV/\(iT s c).1.last=s.last:=by
 unfold iT;split
 .exact⟨lu _ _ _,rfl,rfl⟩
 .rename_i h;refine⟨?_,rfl,rfl⟩;by_cases e:k=c
  .subst e;have:au s.up k=false:=z! _▸h;simp[this]
  .simp[e]
end
structure zm(c:cP):Prop where
 p1:1<=c.aV
 p8:c.aV<=8
 lk:c.links<=c.aV
 k1:1<=c.links
 k6:c.links<=6
 ra:64<=c.rate
 rb:c.rate<=4096
 e1:1<=c.least
 ek:c.least<=c.links
 w1:1<=c.cv
 w64:c.cv<=64
 h1:1<=c.hold
 h64:c.hold<=64
 b1:1<=c.base
 bc:c.base<=c.cap
 c64:c.cap<=64
 r2:2<=c.restart
 r16:c.restart<=16
 t2:2<=c.tries
 t10:c.tries<=10
 a1:1<=c.cD
 am:c.cD<=4294967295
 m1:1<=c.bP
 bm:c.bP<=4294967295
 ne:c.cD≠c.bP
 sa:eO c.bR=C?
 sb:eO c.bT=C?
 se:eO c.expect=C?
theorem L7{c:cP}(h:iH c=C?):zm c:=by
 unfold iH Be at h;simp only[k!,z?]at h;constructor<;>first|omega|(simp only[h])
structure eQ(p p':aF):Prop where
 c:p'.c=p.c
 side:p'.side=p.side
 IY:p'.aX=p.aX
 now:p'.now=p.now
 rnd:p'.random=p.random
 load:p'.load=p.load
 last:p.last<=p'.last
 ch:∃cs,p'.changes=p.changes++cs/\∀x∈cs,x.yC=p.now
 gt:∃gs,p'.got=p.got++gs
 ql:fN p'.queue<=fN p.queue
theorem eQ.refl(p:aF):eQ p p:=⟨rfl,rfl,rfl,rfl,rfl,rfl,Y! _,⟨[],N!,λx hx=>ϭ⟩,⟨[],N!⟩,Y! _⟩
theorem eQ.trans{p t i:aF}(h:eQ p t)(k:eQ t i):eQ p i:=by
 let⟨n,d,w⟩:=h.ch;let⟨l,c,y⟩:=k.ch;let⟨f,u⟩:=h.gt;let⟨g,m⟩:=k.gt;refine⟨k.c.trans h.c,k.side.trans h.side,k.IY.trans h.IY,k.now.trans h.now,k.rnd.trans h.rnd,k.load.trans h.load,o? h.last k.last,⟨n++l,by rw[c,d,baa],λx e=>?_⟩,⟨f++g,by rw[m,u,baa]⟩,o? k.ql h.ql⟩;rcases ό.1 e with e|e
 .exact w x e
 .rw[y x e,h.now]
structure ct(N r:Nat)(p:aF):Prop where
 cfg:zm p.c
 sd:p.side=0\/p.side=1
 q:iq N p.queue
 j:xK N p.join
 t:xL p.cC
 ld0:0<=p.load
 ld1:p.load<=1048576
 n0:0<=p.now
 n1:p.now<=N
 r0:0<=p.random
 r1:p.random<=4398046511104
 la0:0<=p.last
 la1:p.last<=N
 nd:(p.links.map (·.1)).Nodup
 St:∀i l,(i,l)∈p.links->di N r i l/\1<=i/\i<=p.last
 ch:p.changes.length<=N
 gt:p.got.length+p.join.held.length<=N
theorem ct.mono(h:ct N r p){M s:Nat}(e:N<=M)(n:r<=s):ct M s p:=
 ⟨h.cfg,h.sd,h.q.mono e,h.j.mono e,h.t,h.ld0,h.ld1,h.n0,by have:=h.n1;omega,h.r0,h.r1,h.la0,by have:=h.la1;omega,h.nd,λi l t=>⟨(h.St i l t).1.mono e n,(h.St i l t).2⟩,Z? h.ch e,Z? h.gt e⟩
theorem afg(t:(p.links.map (·.1)).Nodup)(e:au p.links id=C?):(id,lk p id)∈p.links:=(eA t).1<|mr e _
theorem ct.link(h:ct N r p)(e:au p.links id=C?):di N r id (lk p id)/\1<=id/\id<=p.last:=h.St id _<|afg h.nd e
theorem ct.bH(h:ct N r p){s:Nat}(t:r<=s)(n:1<=id/\id<=p.last){l:aM}(d:di N s id l):ct N s<|bH p id l:=
 {h.mono (Y? N) t with
  nd:=fL h.nd _ _
  St:=λi x e=>by
   rcases iA e with⟨rfl,rfl⟩|⟨_,e⟩
   .exact⟨d,n⟩
   .exact⟨(h.St i x e).1.mono O? t,(h.St i x e).2⟩}
theorem ct.aN(h:ct N r p){s:Nat}(i:r<=s)(e:au p.links id=C?){f:aM->aM}(t:di N s id<|f<|lk p id):ct N s<|aN p id f:=h.bH i (h.link e).2 t
theorem aG(f:aM->aM)(t:au p.links id=C?)(k:Int):au (aN p id f).links k=au p.links k:=by
 show au (bI p.links id _) k=_;rw[lq];by_cases e:k=id
 .subst e;rw[t];simp
 .simp[e]
theorem mK(f:aM->aM)(e:au p.links id=C?):(aN p id f).links.length=p.links.length:=by
 show(bI p.links id _).length=_;rw[eG,G? e]
theorem dV(f:aM->aM)(k:Int):lk (aN p id f) k=if k=id then f (lk p id)else lk p k:=by
 show(bt (bI p.links id _) k).getD QW=_;rw[iQ];split<;>rfl
theorem di.phase{i:Int}{l:aM}(h:di N r i l)(e:Int):di N r i {l with phase:=e}:=⟨h.id,h.pf,h.an,h.a0,h.a1,h.bf,h.out,h.tm⟩
section
variable(h:ct N r p)
include h
theorem ct.wait:ct N r<|rq p:={h with}
theorem ct.note(t:au p.links id=C?)(e:Int):ct N r<|bC p id e:={h.aN (Y? r) t (f:=λl=>{l with phase:=e}) ((h.link t).1.phase e)with}
theorem ct.change(i e t:Int):ct (N+1) r<|bX p i e t:=
 {h.mono (M:=N+1) B! (Y? r)with
  ch:=by
   have:=h.ch;show(p.changes++[_]).length<=_;exact mcP}
theorem ct.leave(i:Int):ct N r<|ku p i:=
 {h with
  q:=(zl i _ h.q).1.drop i
  j:=h.j.drop i
  gt:=by
   have e:(Aw p.join i).1.held=p.join.held:=by unfold Aw;split<;>rfl
   show p.got.length+(Aw p.join i).1.held.length<=N;rw[e];exact h.gt}
theorem ct.del(i:Int):ct N r {p with links:=dB p.links i}:=
 {h with
  nd:=fM h.nd _
  St:=λk l e=>h.St k l (vH e).2}
theorem ct.gone(id:Int):ct N r<|xj p id:=
 {h with
  nd:=fM h.nd _
  St:=λk l e=>h.St k l (vH e).2}
end
theorem Su(p:aF):eQ p<|rq p:={eQ.refl p with}
theorem Sv(p:aF)(i:Int)(f:aM->aM):eQ p<|aN p i f:={eQ.refl p with}
theorem Sw(p:aF)(i e:Int):eQ p<|bC p i e:={eQ.refl p with}
theorem L8(p:aF)(i t n:Int):eQ p<|bX p i t n:={eQ.refl p with ch:=⟨[⟨p.now,i,t,n⟩],rfl,λx e=>by rw[j?]at e;subst e;rfl⟩}
theorem O8(h:ct N r p)(i:Int):eQ p (ku p i):={eQ.refl p with
 ql:=by
  show fN (vk (qN p.queue i _) i).1<=_;rw[WZ];exact(zl i _ h.q).2}
theorem Sy(p:aF)(i:Int):eQ p<|xj p i:={eQ.refl p with}
structure Fit(N r:Nat)(z:PS):Prop where
 p:ct N r z.1
 s:jZ N z.2
 la:z.1.last<=z.2.last
 po:z.2.aV=z.1.c.aV
 l8:(z.1.links.length:Int)<=z.1.c.aV
def Sub(z:PS):Prop:=∀k,au z.1.links k=C?->au z.2.up k=C?
structure bA(o:Option Int)(M s:Nat)(z z':PS):Prop where
 fit:Fit M s z'
 grow:eQ z.1 z'.1
 keep:∀k,C! k≠o->au z.1.links k=C?->au z'.1.links k=C?
 sub:Sub z->Sub z'
 sl:z.2.last<=z'.2.last
theorem Fit.mono(h:Fit N r z)(e:N<=M)(t:r<=s):Fit M s z:=⟨h.p.mono e t,h.s.mono e,h.la,h.po,h.l8⟩
theorem bA.refl(h:Fit N r z)(o:Option Int):bA o N r z z:=⟨h,eQ.refl _,λ_ _ h=>h,id,Y! _⟩
theorem bA.mono(h:bA o M s z z')(e:M<=M2)(t:s<=s2):bA o M2 s2 z z':=⟨h.fit.mono e t,h.grow,h.keep,h.sub,h.sl⟩
theorem bA.trans(h:bA o M s z z')(k:bA o M2 s2 z' z2):bA o M2 s2 z z2:=⟨k.fit,h.grow.trans k.grow,λi e t=>k.keep i e<|h.keep i e t,λn=>k.sub<|h.sub n,o? h.sl k.sl⟩
theorem bA.some(h:bA L? M s z z')(o:Option Int):bA o M s z z':=⟨h.fit,h.grow,λk _ e=>h.keep k N! e,h.sub,h.sl⟩
section
variable(h:Fit N r z)
include h
theorem gB{p':aF}(c:ct M s p')(i:N<=M)(e:eQ z.1 p')(l:p'.last=z.1.last)(t:∀k,au p'.links k=au z.1.links k)(d:p'.links.length=z.1.links.length):bA L? M s z (p',z.2):=
 ⟨⟨c,h.s.mono i,by show p'.last<=_;rw[l];exact h.la,by show _=p'.c.aV;rw[e.c];exact h.po,by show(p'.links.length:Int)<=p'.c.aV;rw[d,e.c];exact h.l8⟩,e,λk _ h=>by show au p'.links k=C?;rw[t];exact h,λu k n=>u k<|by rw[<-t];exact n,Y! _⟩
theorem Fg:bA L? N r z (rq z.1,z.2):=gB h h.p.wait O? (Su _) rfl (λ_=>rfl) rfl
theorem dH(e:au z.1.links id=C?){f:aM->aM}(i:r<=s)(t:di N s id<|f<|lk z.1 id):bA L? N s z (aN z.1 id f,z.2):=
 gB h (h.p.aN i e t) O? (Sv _ _ _) rfl (aG f e) (mK f e)
theorem CU(t:au z.1.links id=C?)(e:Int):bA L? N r z (bC z.1 id e,z.2):=
 gB h (h.p.note t e) O? (Sw _ _ _) rfl (aG (λl=>{l with phase:=e}) t) (mK (λl=>{l with phase:=e}) t)
theorem DC(i e t:Int):bA L? (N+1) r z (bX z.1 i e t,z.2):=gB h (h.p.change i e t) B! (L8 _ _ _ _) rfl (λ_=>rfl) rfl
theorem O9(i:Int):bA L? N r z (ku z.1 i,z.2):=gB h (h.p.leave i) O? (O8 h.p i) rfl (λ_=>rfl) rfl
theorem zn(id:Int):bA (C! id) N r z (xj z.1 id,(iT z.2 id).1):=by
 let⟨n,h2⟩:=(vL (s:=z.2) id 0).2;have i:∀k,au (xj z.1 id).links k=(!K? (k=id)&&au z.1.links k):=λk=>lu _ _ _;refine⟨⟨h.p.gone id,h.s.aff id,?_,?_,?_⟩,Sy _ _,λk l t=>?_,λhs k t=>?_,naG⟩
 .show z.1.last<=(iT z.2 id).1.last;rw[h2];exact h.la
 .show(iT z.2 id).1.aV=z.1.c.aV;rw[n];exact h.po
 .have d:=kN z.1.links id;have:=h.l8;show((dB z.1.links id).length:Int)<=z.1.c.aV;omega
 .show au (xj z.1 id).links k=C?;rw[i,t];have:k≠id:=λe=>l (by rw[e]);simp[this]
 .have h3:au (xj z.1 id).links k=true:=t;rw[i]at h3;exact nbb
theorem pN(id:Int):bA (C! id) (N+1) r z<|fq z id:=by
 unfold fq;dsimp only;split
 .have e:=O9 h id;have s2:=DC e.fit id 2 0;exact((e.trans s2).some _).trans<|zn s2.fit id
 .split
  .have e:=(Fg h).mono (M2:=N+1) B! (Y? r);exact(e.some _).trans<|zn e.fit id
  .exact zn (h.mono B!<|Y? r) id
end
section
variable{l:aM}
theorem Xa{e:List Int}:∀{l2:List Int},e.Nodup->(∀x∈e,x∈l2)->e.length<=l2.length:=Gx.JN
theorem Br(h:Fit N r z)(e:Sub z):z.1.links.length<=z.2.up.length:=by
 have:=Xa h.p.nd (l2:=z.2.up.map (·.1)) λx t=>dI.1<|e x<|dI.2 t;rw[g!,g!]at this;exact this
theorem Pa(N r:Nat)(id:Int)(c:cP)(g t:Int)(d:Bool):di N r id<|iU id c g t d:=
 ⟨rfl,(λp e=>by cases e),S! _,Y! 0,(by show(0:Int)<=N;omega),S! _,S! _,(λk hk=>o!)⟩
theorem tz(h:ct N r p)(t:p.last<id):au p.links id=false:=by
 cases e:au p.links id with
 |false=>rfl
 |true=>have:=h.link e;omega
theorem L9(h:Fit N r z)(S:z.1.last<id)(E:au z.2.up id=C?)(Y:(z.1.links.length:Int)+1<=z.1.c.aV)(y:Int)(d:Bool):bA L? N (r+2) z (jC z.1 id y d,z.2):=by
 have D:=tz h.p S
 have A:id<=z.2.last:=by
  obtain⟨⟨a,b⟩,I,rfl⟩:=a!.1<|dI.1 E;exact(h.s.key _ _ I).2
 have B:=h.p.la0;have W:=h.s.ln;obtain⟨t,n⟩:∃t:aF,{bH z.1 id (iU id z.1.c (dZ z.1) y d)with last:=max z.1.last id}=t:=⟨_,rfl⟩;have L:max z.1.last id=id:=B!;have g:∀k,au t.links k=(decide (k=id)||au z.1.links k):=λk=>by rw[<-n];exact lq _ _ _ _
 have H:t.links.length=z.1.links.length+1:=by
  rw[<-n];show(bI z.1.links id _).length=_;rw[eG,F!<|by rw[D];decide]
 have O:ct N r t:=by
  rw[<-n]
  exact{h.p with
   la0:=(by show 0<=max z.1.last id;omega)
   la1:=(by show max z.1.last id<=N;omega)
   nd:=fL h.p.nd _ _
   St:=λi x w=>by
    show di N r i x/\1<=i/\i<=max z.1.last id;rcases iA w with⟨rfl,rfl⟩|⟨_,w⟩
    .exact⟨Pa _ _ _ _ _ _ _,B!,B!⟩
    .have:=h.p.St i x w;exact⟨this.1,this.2.1,B!⟩}
 have c:eQ z.1 t:=by rw[<-n];exact{eQ.refl z.1 with last:=(by show z.1.last<=max z.1.last id;omega)}
 have R:t.last=id:=by rw[<-n];exact L
 have m:au t.links id=true:=by rw[g];simp
 have v:Fit N r (t,z.2):=⟨O,h.s,by show t.last<=_;rw[R];exact A,by show _=t.c.aV;rw[c.c];exact h.po,by show(t.links.length:Int)<=t.c.aV;rw[H,c.c];omega⟩
 have F:bA L? N r z (t,z.2):=⟨v,c,λk _ u=>by show au t.links k=C?;rw[g,u];simp,λC k u=>by
  have j:au t.links k=true:=u;rw[g]at j;show au z.2.up k=C?;by_cases e:k=id
  .rw[e];exact E
  .exact C k (by simpa[e]using j),Y! _⟩
 have s2:=CU v m 2;have q:au (bC t id 2).links id=true:=(aG (λl=>{l with phase:=2}) m id).trans m;have G:=dH s2.fit q (f:=λl=>Bf l<|z.1.now+z.1.c.restart) (s:=r+2) B!<|(s2.fit.p.link q).1.begin _;have e:jC z.1 id y d=aN (bC t id 2) id (λl=>Bf l<|z.1.now+z.1.c.restart):=by rw[<-n];rfl
 rw[e];exact(F.trans s2).trans G
theorem Xb{s:aU}{a b:Int}(h:(lz s a b).2.2≠0):(lz s a b).1.up=s.up/\(lz s a b).1.last=s.last/\(lz s a b).1.aV=s.aV:=by
 unfold lz at h|-;by_cases e:nM a=H!\/b≠1-a
 .rw[G? e];exact⟨rfl,rfl,rfl⟩
 .rw[F! e]at h|-;by_cases t:s.aV<=s.up.length
  .rw[G? t];exact⟨rfl,rfl,rfl⟩
  .rw[F! t]at h|-;by_cases i:0<s.sO
   .rw[G? i];exact⟨rfl,rfl,rfl⟩
   .rw[F! i]at h;exact absurd rfl h
theorem Pb{s:aU}{a b:Int}(h:(lz s a b).2.2=0):lz s a b=({s with last:=s.last+1,up:=bI s.up (s.last+1) kI},s.last+1,0)/\(s.up.length:Int)<s.aV:=by
 unfold lz at h|-;by_cases e:nM a=H!\/b≠1-a
 .rw[G? e]at h;cases h
 .rw[F! e]at h|-;by_cases t:s.aV<=s.up.length
  .rw[G? t]at h;cases h
  .rw[F! t]at h|-;by_cases i:0<s.sO
   .rw[G? i]at h;cases h
   .rw[F! i];exact⟨rfl,B!⟩
theorem UH(h:Fit N r z)(e:Sub z)(f:Int):bA L? (N+1) (r+2) z<|vu z f:=by
 have t:=h.s.aiF z.1.side<|1-z.1.side;unfold vu;dsimp only;by_cases d:(lz z.2 z.1.side<|1-z.1.side).2.2≠0
 .rw[G? d];let⟨i,n,u⟩:=Xb d;generalize (lz z.2 z.1.side<|1-z.1.side).1=S at i n u t|-;have w:=Fg<|h.mono (M:=N+1) (s:=r+2) B! B!;exact⟨⟨w.fit.p,t,by show z.1.last<=S.last;rw[n];exact h.la,by show S.aV=_;rw[u];exact h.po,h.l8⟩,w.grow,w.keep,(λe k c=>by show au S.up k=C?;rw[i];exact e k c),by show z.2.last<=S.last;rw[n];exact Y! _⟩
 .rw[F! d];let⟨i,n⟩:=Pb<|ϸ d;rw[i]at t|-;dsimp only at t|-;have v:=Br h e;have y:=h.po;have b:=h.la;have m:Fit (N+1) r (z.1,({z.2 with last:=z.2.last+1,up:=bI z.2.up (z.2.last+1) kI}:aU)):=⟨h.p.mono B! O?,t,by show z.1.last<=z.2.last+1;omega,h.po,h.l8⟩
  have g:bA L? (N+1) r z (z.1,({z.2 with last:=z.2.last+1,up:=bI z.2.up (z.2.last+1) kI}:aU)):=⟨m,eQ.refl _,λ_ _ h=>h,(λe k c=>by
   show au (bI z.2.up _ _) k=C?;rw[lq,e k c];simp),by show z.2.last<=z.2.last+1;omega⟩
  exact g.trans<|L9 m (by show z.1.last<z.2.last+1;omega) (by show au (bI z.2.up _ _) _=C?;rw[lq];simp) (by show(z.1.links.length:Int)+1<=z.1.c.aV;omega) f C?
theorem ct.aiH(h:ct N r p)(i:Int):ct N r {p with join:=(kH p.join i).1}:=
 {h with
  j:=h.j.add i
  gt:=by
   have e:(kH p.join i).1.held=p.join.held:=by unfold kH;split;rfl;split<;>rfl
   show p.got.length+(kH p.join i).1.held.length<=N;rw[e];exact h.gt}
theorem di.num(h:di N r id l)(n:Int):di N r id {l with num:=n}:=⟨h.id,h.pf,h.an,h.a0,h.a1,h.bf,h.out,h.tm⟩
theorem aaC(h:Fit N r z)(n:au z.1.links id=C?):bA (C! id) (N+1) (r+1) z<|jG z id:=by
 unfold jG;dsimp only;let⟨num,v⟩:=F?<|if(lk z.1 id).dials then(lk z.1 id).num else(lk z.1 id).neg.other.num
 rw[v];let⟨p,y⟩:=F?<|if(lk z.1 id).dials then z.1 else aN z.1 id (λl=>{l with num:=num})
 rw[y]
 have i:bA L? N r z (p,z.2)/\au p.links id=true:=by
  rw[<-y];split
  .exact⟨bA.refl h L?,n⟩
  .exact⟨dH h n O?<|(h.p.link n).1.num num,(aG _ n id).trans n⟩
 obtain⟨i,u⟩:=i;split
 .exact(i.some _).trans<|(pN i.fit id).mono O? B!
 .have c:=CU i.fit u 4;have g:au (bC p id 4).links id=true:=(aG (λl=>{l with phase:=4}) u id).trans u;generalize bC p id 4=t at c g|-;have s2:bA L? N r (t,z.2) ({t with join:=(kH t.join id).1},z.2):=gB c.fit (c.fit.p.aiH id) O? {eQ.refl t with} rfl (λ_=>rfl) rfl;have d:=DC s2.fit id 0 num;let⟨e,b⟩:=F?<|bX {t with join:=(kH t.join id).1} id 0 num;have w:au e.links id=true:=by rw[<-b];exact g
  simp only at d;rw[b]at d|-;have m:bA L? (N+1) r (e,z.2) ({e with fails:=0},z.2):=gB d.fit {d.fit.p with} O? {eQ.refl e with} rfl (λ_=>rfl) rfl;have k:=dH (f:=λl=>{lC l (dZ e)with at_:=e.now+e.c.restart}) (s:=r+1) m.fit w B!<|(((m.fit.p.link w).1).ask _).setAt _;have:=((((i.trans c).trans s2).trans d).trans m).trans k;exact this.some _
theorem di.aaD(h:di N r id l)(a b:Int):di N r id {l with drop:=a,over:=b}:=⟨h.id,h.pf,h.an,h.a0,h.a1,h.bf,h.out,h.tm⟩
theorem di.ac9(h:di N r id l)(b:Int):di N r id {l with over:=b}:=⟨h.id,h.pf,h.an,h.a0,h.a1,h.bf,h.out,h.tm⟩
theorem aaE(h:Fit N r z)(m:au z.1.links id=C?)(i:Int):bA L? N r z (uD z.1 id i,z.2):=by
 have c:bA L? N r z ({z.1 with queue:=(pG z.1.queue id).1},z.2):=gB h {h.p with q:=h.p.q.drain id} O? {eQ.refl z.1 with ql:=(by show fN (pG z.1.queue id).1<=_;rw[Sr];exact Y! _)} rfl (λ_=>rfl) rfl;obtain⟨t,d⟩:∃t:aF,{z.1 with queue:=(pG z.1.queue id).1}=t:=⟨_,rfl⟩;have n:au t.links id=true:=by rw[<-d];exact m
 have e:uD z.1 id i=aN (bC t id 5) id (λl=>{l with drop:=i,over:=z.1.now+dP z.1}):=by rw[<-d];rfl
 rw[d]at c;rw[e];have s2:=CU c.fit n 5;have u:au (bC t id 5).links id=true:=(aG (λl=>{l with phase:=5}) n id).trans n;exact(c.trans s2).trans<|dH s2.fit u (f:=λl=>{l with drop:=i,over:=z.1.now+dP z.1}) O?<|(s2.fit.p.link u).1.aaD _ _
theorem Sz(h:Fit N r z)(id:Int):bA (C! id) N r z ({z.1 with links:=dB z.1.links id},(iT z.2 id).1):=by
 let⟨i,h2⟩:=(vL (s:=z.2) id 0).2;refine⟨⟨h.p.del id,h.s.aff id,?_,?_,?_⟩,{eQ.refl z.1 with},λk n t=>?_,λhs k t=>?_,naG⟩
 .show z.1.last<=(iT z.2 id).1.last;rw[h2];exact h.la
 .show(iT z.2 id).1.aV=z.1.c.aV;rw[i];exact h.po
 .have d:=kN z.1.links id;have:=h.l8;show((dB z.1.links id).length:Int)<=z.1.c.aV;omega
 .show au (dB z.1.links id) k=C?;rw[lu,t];have:k≠id:=λe=>n (by rw[e]);simp[this]
 .have h3:au (dB z.1.links id) k=true:=t;rw[lu]at h3;exact nbb
theorem aaF(h:Fit N r z)(g:au z.1.links id=C?):bA (C! id) (N+1) r z<|endP z id:=by
 unfold endP;dsimp only;have m:=O9 h id;have s2:=DC m.fit id 1 (lk z.1 id).drop;simp only at s2;let⟨n,c⟩:=F?<|bX (ku z.1 id) id 1 (lk z.1 id).drop;have t:au n.links id=true:=by rw[<-c];exact g
 rw[c]at s2|-;have e:=CU s2.fit t 6;have i:au (bC n id 6).links id=true:=(aG (λl=>{l with phase:=6}) t id).trans t;generalize bC n id 6=u at e i|-;have d:=dH (f:=λl=>{l with over:=u.now+dP u}) e.fit i O?<|(e.fit.p.link i).1.ac9 _;have s:=((m.trans s2).trans e).trans d;simp only at s d|-;split
 .exact(s.some _).trans<|Sz d.fit id
 .exact s.some _
theorem aaG(h:Fit N r z)(e:au z.1.links id=C?):bA (C! id) (N+1) (r+1) z<|iL z id:=by
 unfold iL;dsimp only;split
 .have t:=dH h e (f:=λl=>kq l z.1.c z.1.side (z.1.now+z.1.c.restart) z.1.random) (s:=r+1) B! ((h.p.link e).1.prove _ _ _ _);have s2:=CU t.fit ((aG _ e id).trans e) 3;exact((t.trans s2).mono B! O?).some _
 .split
  .exact(pN h id).mono O? B!
  .split
   .exact(aaF h e).mono O? B!
   .split
    .exact(pN h id).mono O? B!
    .exact(bA.refl h _).mono B! B!
end
