/- Walks and plain laws. -/
import Derived.Test.YtncddkcponjlpaaGreatDoorK43
set_option linter.unusedVariables false
set_option linter.unusedSectionVars false
set_option linter.unusedSimpArgs false
set_option maxHeartbeats 0
set_option maxRecDepth 99999
namespace Go.Proofs.YtncddkcponjlpaaGreatDoor
open Go.RowKit Go.Proofs.Tryz
open Go renaming World→D!,Value→I?,Calls→G!,IntKind→ncy
open Go.RowKit renaming Hid→E!
open Decidable renaming decide→K?
open Option renaming some→C!,none→L?
open Bool renaming true→C?,false→H!
open Go.Proofs.Tryz renaming prog→E?
variable{P:Prop}
variable{w w1 w2 W:D!}{G G1 G2:Nat->Tag}{pb a b sb N:Nat}{va vb:I?}{m m':fD}{ml:Int}
section
variable{W6 W8 W10 W12:D!}{G6 G8 G10:Nat->Tag}
theorem Ab{b:Nat}{n:Int}(o:G b=[n])(i:Nat)(v:I?):Step (λu=>u=[n]) G w G<|w.setCell (B? b i) v:=by
 have t:=ay w b i v;exact⟨t.os,t.tape,t.output,t.size,λ_ _=>rfl,λk s r=>t.block k s λe=>r<|by rw[e];exact o⟩
theorem wZ{T:Tag->Prop}{w1:D!}{G1:Nat->Tag}(h:Step (λ_=>False) G w G1 w1):Step T G w G1 w1:=h.mono λ_ e=>e.elim
theorem Yb{n:Int}{b f g E q j:Nat}{c:cP}{IY:Bool}{Q:bh}{J:aT}{K:dD}{b5 b6 b7 b8:I?}
 (a3:aO W6 b 94 #[A! c.aV,A! c.links,A! c.least,A! c.rate,A! c.cv,A! c.high,A! c.low,A! c.hold,A! c.base,A! c.cap,A! c.restart,A! c.tries,H? c.short,D? c.bR,D? c.bT,D? c.expect,A! c.cD,A! c.bP,A! n,b5,b6,b7,b8,A! 0,A! 0,A! 0,A! 0,.pointer L?,A! 0,.map<|C! f,.map<|C! g,.map<|C! E,Q!,Q!,A! 0,A! 0,A! 0,A! 0,A! 0])
 (a7:bp W6 f [])(a8:bp W6 g [])(aa:bp W6 E [])(X:G6 b=[n])(Z:G6 f=[n,4])(a0:G6 g=[n,5])(a1:G6 E=[n,6])
 (O:Step (λ_=>False) G6 (W6.setCell (B? b 19)<|H? IY) G8 W8)(b3:eC W8 G8 [n,1] q Q)
 (A:Step (λ_=>False) G8 (W8.setCell (B? b 20)<|ptr q) G10 W10)(b1:yJ W10 G10 [n,2] j J)
 (a2:Below (W10.setCell (B? b 21)<|ptr j).heap.size (W10.setCell (B? b 21)<|ptr j).drew W12)(hk:aO W12 (W10.setCell (B? b 21)<|ptr j).drew.heap.size 161<|kM Q! Q! K)(a5:K.ask.opts=[]/\K.last.opts=[]):
 ∃H x,cg (W12.setCell (B? b 22)<|ptr (W10.setCell (B? b 21)<|ptr j).drew.heap.size) H n b x ⟨c,n,IY,Q,J,K,0,0,0,0,0,[],[],[],[],[],0,0,0,0,0⟩/\x.s=L?/\
  (∀i,i<W6.heap.size->H i=G6 i)/\∀B,B<=b->B<=W6.heap.size->Below B W6 (W12.setCell (B? b 22)<|ptr (W10.setCell (B? b 21)<|ptr j).drew.heap.size):=by
 have d:∀a s,¬(λu=>u=[n]) (n::a::s):=λa s e=>ba7;have l:∀a s u,aq (n::a::s) u->¬(λu=>u=[n]) u:=λa s u a9 e=>by rw[show u=[n]from e]at a9;exact mX a9
 have ba:=Ab (w:=W6) X 19<|H? IY;have ar:=a3.set 19 (H? IY) rfl;have M:=ar.step O λe=>e;have an:=ba.trans<|wZ O;have V:=(an.old _ a3.lt).trans X;have bc:=Ab (w:=W8) V 20<|ptr q;have av:=M.set 20 (ptr q) rfl;have D:=av.step A λe=>e;have R:=bc.trans<|wZ A;have F:=(R.old _ M.lt).trans V;have b9:=b3.step R<|l 1 [];have am:=Ab (w:=W10) F 21<|ptr j;have C:=D.set 21 (ptr j) rfl;let⟨t,a6⟩:=F?<|W10.setCell (B? b 21)<|ptr j;rw[a6]at a2 hk am C|-
 have y:Step (λ_=>False) G10 t (λi=>if i<t.heap.size then G10 i else[n,3]) W12:=by
  have az:=(aQ<|P! t.heap.size t).trans a2;exact Step.rule (Only.aP (S:=λ_=>False) az) (λ_ _ e=>e.elim) _
 let⟨L,a4⟩:=F? λi=>if i<t.heap.size then G10 i else[n,3]
 have gk:L t.heap.size=[n,3]:=by rw[<-a4];exact F!<|mdw _
 rw[a4]at y;have z:=am.trans<|wZ y;have Y:=(z.old _ D.lt).trans F;have ao:=C.step y λe=>e;have v:=Ab (w:=W12) Y 22<|ptr t.heap.size;have ap:=ao.set 22 (ptr t.heap.size) rfl;have b2:aO W12 t.heap.size 161<|kM Q! Q! K:=hk;have r:=((an.trans R).trans z).trans v;refine⟨L,⟨q,j,t.heap.size,L?,f,g,E,Q!,Q!,λ_=>0⟩,⟨ap,Y,(b9.step z<|l 1 []).step v<|l 1 [],(b1.step z<|l 2 []).step v<|l 2 [],?_,?_,?_,?_,?_,?_,?_,oy.nil _ _ _ _,oy.nil _ _ _ _,λab bf hk=>o!⟩,rfl,λi b0=>r.old i b0,λB ax o=>?_⟩
 .exact⟨_,_,b2.step v<|by rw[gk];exact d 3 [],gk,by rw[a5.1];exact pd.nil _ _ _ _,by rw[a5.2];exact pd.nil _ _ _ _⟩
 .exact(r.old _ a7.lt).trans Z
 .exact(r.old _ a8.lt).trans a0
 .exact(r.old _ aa.lt).trans a1
 .exact a7.step r (by rw[Z];exact d 4 [])
 .exact a8.step r (by rw[a0];exact d 5 [])
 .exact aa.step r (by rw[a1];exact d 6 [])
 .have k:=λbe i bd b4=>(ay be b i bd).below b4 λab e=>by rw[show ab=b from e];exact ax
  have ae:=k W6 19 (H? IY) o;have ag:=ae.trans<|O.base (Z? o ae.size) λ_ _ e=>e;have al:=ag.trans<|k W8 20 (ptr q)<|Z? o ag.size;have ac:=al.trans<|A.base (Z? o al.size) λ_ _ e=>e;have I:=ac.trans<|k W10 21 (ptr j)<|Z? o ac.size;rw[a6]at I;have ad:=I.trans<|y.base (Z? o I.size) λ_ _ e=>e;exact ad.trans<|k W12 22 _<|Z? o ad.size
end
theorem Ir:∀(j:Nat) (m:fD),bV (j+1) m=jQ (bV j m)
 |0,m=>rfl
 |j+1,m=>by
  show bV (j+1) (jQ m)=_;rw[Ir j<|jQ m];rfl
theorem bL.trans(h:bL G w pb a b sb va vb m W)(i:∀e,bQ W e pb a b sb va vb m->bL e W pb a b sb va vb m' W):bL G w pb a b sb va vb m' W:=by
 obtain⟨e,t,o⟩:=h;let⟨G2,n,s⟩:=i e t;exact⟨G2,n,o.trans s⟩
theorem Jq(k:Int)(h:bQ w G pb a b sb va vb m)(X:Env w G ml)(g:cO N m)(a6: -9223372036854775808<=k)(a7:k<=9223372036854775807)(K:k<=4096->0<=k->N+1200000*k.toNat<=40000000000):
 G! E? 53 #[ptr pb,A! k] w λe d=>e=.returned (A!<|if k<1\/4096<k\/1073741824<m.time+k then 2700 else 0)/\bL G w pb a b sb va vb (if k<1\/4096<k\/1073741824<m.time+k then m else bV k.toNat m) d:=by
 have I:=h.blk.k 3;have S:=g.t0;have R:=g.t1;have E:E!<|bL G w pb a b sb va vb m w:=A? ⟨G,h,Step.refl _ _ _⟩;by_cases l:k<1\/4096<k\/1073741824<m.time+k
 .rw[G? l,G? l];generalize m.time=A at I l S R;unfold ptr;rcases(by omega:k<1\/(1<=k/\4096<k)\/(1<=k/\k<=4096/\1073741824<A+k))with u|⟨u,f⟩|⟨u,f,O⟩
  all_goals
   go_wp2
   go_ret;exact⟨rfl,E⟩
 .rw[F! l,F! l];have u:1<=k:=B!;have f:k<=4096:=B!;have O:m.time+k<=1073741824:=B!;have D:=K f B!;obtain⟨n,rfl⟩:∃n:Nat,k=n:=⟨k.toNat,B!⟩;rw[Int.toNat_natCast]at D|-
  have Y:E! (∀j:Nat,j<n->cO (N+1200000*j) (bV j m)/\(bV j m).time=m.time+j):=A? λj y=>by
   let⟨a2,a8,a3⟩:=r9 j g B!;exact⟨a2,a3⟩
  have M:E!<|∀j W,j<n->bL G w pb a b sb va vb (bV j m) W->G! E? 76 #[ptr pb] W λe d=>e=.returned (.tuple #[])/\bL G w pb a b sb va vb (bV (j+1) m) d:=A? λj W y J=>by
   obtain⟨a4,Z,L⟩:=J;let⟨B,a5⟩:=Y j y;apply(MK Z (X.pair L) B B! B!).mono;rintro e d ⟨rfl,C,a0,a1⟩;exact⟨rfl,C,by rw[Ir];exact a0,L.trans a1⟩
  generalize m.time=A at I O S R;unfold ptr at*
  go_wp2
  go_loopw[21] (λi wr=>∃j:Nat,j<=n/\i=A! j/\E! (bL G w pb a b sb va vb (bV j m) wr)) (λi _=>n-(intOf i).toNat)
  case atStart=>exact⟨0,S! _,rfl,E⟩
  case round=>
   obtain⟨j,y,rfl,z⟩:=hrel;by_cases H:j<n
   .have Q:j+1<=n:=H;have F:=A?<|M j wr H z.out;go_wp2_with fail;refine M! F λa9 V=>?_;go_wp2;go_roundw
    case rel=>exact⟨j+1,Q,W!,V⟩
    case measure=>simp[intOf];omega
   .obtain rfl:j=n:=B!;go_wp2;go_ret;exact⟨rfl,z.out⟩
theorem mO(n:Int)(w:D!):G! E? 45 #[A! n] w (T! w<|H?<|K? (n=0)||K? (n=1)):=by
 by_cases e:n=0
 .subst e;exact d?
 .by_cases t:n=1
  .subst t;exact d?
  .have o:(n==0)=false:=by simp[e]
   have i:(n==1)=false:=by simp[t]
   rw[show(decide (n=0)||K? (n=1))=H! by simp[e,t]];exact d?
section
variable(h:bQ w G pb a b sb va vb m)
include h
theorem ML:G! E? 25 #[ptr pb] w (T! w<|A! m.time):=by
 have n:=h.blk.k 3;unfold ptr;exact d?
theorem Iu:G! E? 20 #[ptr pb,A! 0] w (T! w<|ptr a):=by
 have n:=h.blk.k 0;have HS:=A?<|mO 0 w;unfold ptr at*
 exact mfC
theorem Iv:G! E? 20 #[ptr pb,A! 2] w (T! w (.pointer L?)):=by
 have HS:=A?<|mO 2 w;unfold ptr at*
 exact mfC
theorem Ua(d:m.cr.length*16<=140737488355328):G! E? 33 #[ptr pb,A! 0] w λe n=>(∃v',e=.returned v'/\ky fB n w.heap.size v' m.cr)/\K! w n:=by
 have l:=h.blk.k 5;have HS:=A?<|mO 0 w;have HC:=A?<|DT va m.cr w h.ta.1 d;obtain⟨x,c,e,-,-⟩:=h.ta.1.form;rw[e]at l HC;exact naf
theorem Ub(d:m.cH.length*16<=140737488355328):G! E? 33 #[ptr pb,A! 1] w λe n=>(∃v',e=.returned v'/\ky fB n w.heap.size v' m.cH)/\K! w n:=by
 have l:=h.blk.k 6;have HS:=A?<|mO 1 w;have HC:=A?<|DT vb m.cH w h.tb.1 d;obtain⟨x,c,e,-,-⟩:=h.tb.1.form;rw[e]at l HC;exact naf
end
theorem zD(s:ByteArray)(w:D!):G! E? 58 #[D? s] w (T! w<|A!<|xG s):=by
 by_cases t:s.size=0
 .have e:xG s=0:=by unfold xG;simp[t]
  have i:s=⟨#[]⟩:=by
   apply mcK;have:s.data.size=0:=t;exact Array.eq_empty_of_size_eq_zero this
  rw[e];subst i;exact d?
 .have d:0<s.size:=B!;have o:s.data.toList.length=s.size:=bch
  have r:s.toList.isEmpty=false:=by
   rw[ByteArray.toList_eq];cases e:s.data.toList with
   |nil=>rw[e]at o;simp at o;omega
   |cons _ _=>rfl
  have n:E! (wrap64 (s[0].toNat:Int)=xG s):=A? (by
   unfold xG ko;rw[F! t];have l:=s[0].toNat_lt
   have e:s.data.toList.getD 0 0=s[0]:=by
    rw[ba1,ο B!];simp only[ba5,Array.getElem_toList];rfl
   rw[e];unfold wrap64;omega)
  go_wp2
  go_ret;exact⟨by rw[<-n.out];rfl,rfl⟩
theorem Yc(h:bQ w G pb a b sb va vb m):G! E? 31 #[ptr pb] w λe n=>e=.returned (.tuple #[A! m.a.load,A! m.b.load])/\bL G w pb a b sb va vb m n:=by
 have u:L! w.drew pb 0<|ptr a:=h.blk.k 0;have f:L! w.drew pb 1<|ptr b:=h.blk.k 1;have j:=h.step (aB (λ_=>False) G w) λ_ _ e=>e;have z:=A?<|EI j.adV;have E:=A?<|EI j.adW;have A:E!<|bL G w pb a b sb va vb m w.drew:=A? ⟨G,j,aB _ _ _⟩;unfold ptr at*
 go_wp2
 refine dW (λn=>L! n pb 0 (P? a)/\L! n pb 1 (P? b)) (zca [0,2,4,6,8,12,14,16,18,20,11,23,24,26]) (⟨u,f⟩) ?_;refine R? ?_;intro K y;go_wp2_with(go_at_call 52;refine M! z λO g=>?_;rw[g]);refine O! y ⟨u,f⟩ ?_;refine R? ?_;intro K y;go_wp2_with(go_at_call 52;refine M! E λO g=>?_;rw[g]);refine O! y ⟨u,f⟩ ?_;refine T? ?_;go_wp2;go_ret2;exact⟨rfl,A⟩
theorem KJ{v:I?}{l:List ByteArray}(h:jd fB w v l):∃a c,v=J! a l.length c/\(l=[]\/∃g o,a=C! (B? g o)/\∀j (e:j<l.length),w.cell? (B? g<|o+j)=C! (D? l[j])):=by
 by_cases t:l=[]
 .obtain⟨a,c,rfl,-,-⟩:=h.form;exact⟨a,c,rfl,.inl t⟩
 .obtain⟨g,o,c,rfl,-,-,-,i⟩:=h.cell t;refine⟨_,c,rfl,.inr ⟨g,o,rfl,λj e=>?_⟩⟩;have:=i j e 0 I!;rw[show o+j*fB.size+0=o+j from by show o+j*1+0=_;omega]at this;exact this
theorem MR(va vb:I?)(l:List ByteArray)(w:D!)(o:jd fB w va l)(s:jd fB w vb l)(y:l.length<=9223372036854775807):
 G! E? 32 #[va,vb] w (S? w<|H? C?):=by
 obtain⟨v,q,rfl,c⟩:=KJ o;obtain⟨j,z,rfl,u⟩:=KJ s;let⟨n,d⟩:=F? l.length;have HN:=A? d;rw[d];have R:n<=9223372036854775807:=B!;have f:=A? c;have g:=A? u;clear y o s c u d;go_wp2;go_loopw[5] (λi wr=>∃k:Nat,k<=n/\i=A! k/\K! w wr) (λi _=>n-(intOf i).toNat)
 case atStart=>exact⟨0,S! _,rfl,P! _ _⟩
 case round=>
  obtain⟨k,S,rfl,r⟩:=hrel;by_cases hlt:k<n
  .have t:k<l.length:=Δ;rcases f with e|⟨E,L,rfl,o⟩
   .rw[e]at t;cases t
   rcases g with e|⟨A,D,rfl,s⟩
   .rw[e]at t;cases t
   have O:=(r.cell<|h!<|o k t).trans<|o k t;have I:=(r.cell<|h!<|s k t).trans<|s k t;have H:(l[k].toList !=l[k].toList)=false:=N!;clear o s;go_wp2;go_region;go_wp2;go_roundw
   case rel=>exact⟨k+1,B!,W!,by repeat(first|exact r|apply aQ)⟩
   case measure=>simp[intOf];omega
  .obtain rfl:k=n:=B!;go_wp2;go_ret;exact⟨rfl,r⟩
