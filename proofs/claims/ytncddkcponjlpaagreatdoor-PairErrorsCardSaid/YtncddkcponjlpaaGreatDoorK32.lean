/- Walks and plain laws. -/
import Derived.Test.YtncddkcponjlpaaGreatDoorK31
set_option linter.unusedVariables false
set_option linter.unusedSimpArgs false
set_option maxHeartbeats 0
set_option maxRecDepth 99999
namespace Go.Proofs.YtncddkcponjlpaaGreatDoor
open Go.RowKit Go.Proofs.Tryz
open Go renaming World→D!,Value→I?,Calls→G!,IntKind→ncy
open Go.RowKit renaming Hid→E!
open Decidable renaming decide→K?
open Option renaming some→C!,none→L?
open Bool renaming true→C?,false→H!
open Go.Proofs.Tryz renaming prog→E?
variable{P:Prop}
variable{w w1 w2:D!}{G G1 G2:Nat->Tag}{n ml id:Int}{b sb N r:Nat}{x:eY}{z z':PS}{m:aF}
theorem zy{p:aF}(e:zm p.c):0<=dP p/\dP p<=1000:=by
 have t:=e.r2;have o:=e.r16;have i:=e.t2;have s:=e.t10;have a:=Int.mul_le_mul (a:=2*p.c.restart) (b:=p.c.tries+2) (c:=32) (d:=12) B! B! B! B!;have b:=Int.mul_nonneg (a:=2*p.c.restart) (b:=p.c.tries+2) B! B!;unfold dP;omega
theorem AZ(h:aO w b 94<|gE x m)(l:zm m.c):G! E? 224 #[ptr b] w (S? w<|A!<|dP m):=by
 have g:J? w.drew b 10 m.c.restart:=h.k 10;have y:J? w.drew b 11 m.c.tries:=h.k 11;have f:=zy l;unfold dP at*
 have k:=l.r2;have j:=l.r16;have E:=l.t2;have A:=l.t10;let⟨d,I⟩:=F? m.c.restart;let⟨u,O⟩:=F? m.c.tries;rw[I]at g f k j|-;rw[O]at y f E A|-;obtain⟨S,R⟩:=f;have H:0<=2*d*(u+2):=Int.mul_nonneg B! B!;unfold ptr;go_in;go_wp2_with fail;apply gG M? M?
 repeat still_step
 apply Θ;go_wp2;go_ret;refine⟨?_,aQ U?⟩;show Ending.returned (A!<|IntKind.i64.wrap<|60+IntKind.i64.wrap (IntKind.i64.wrap (2*d)*IntKind.i64.wrap (u+2)))=_;rw[lY (n:=2*d) B! B!,lY (n:=u+2) B! B!,lY (n:=2*d*(u+2)) B! B!,lY B! B!]
theorem Hy(A:Int)(h:aS w G n b sb x z)(H:ct N r z.1)(d0:N<=40000000000)(L:au z.1.links id=C?):
 G! E? 243 #[ptr b,ptr<|x.f id,A! A] w (fu n b sb G w x z (uD z.1 id A,z.2) (.tuple #[])):=by
 have be:=(H.link L).1.id;have c0:=A?<|zy H.cfg;have c5:E!<|0<=z.1.now/\z.1.now<=40000000000:=A? ⟨H.n0,by have:=H.n1;omega⟩;have b5:=A?<|λ(w1:D!) (ci:eY) (bm:aF) (hB:aO w1 b 94<|gE ci bm) (c9:bm.c=z.1.c)=>AZ hB<|by rw[c9];exact H.cfg
 have a6:=A? L;have ar:=A? be;have y:=h.drew;have b6:=A? y;have C:E!<|∀u av br,aS u av n b sb x ({z.1 with queue:=br},z.2)->L! u b 20 (ptr x.q)/\J? u (x.f id) 2 id:=A? λu av br bc=>⟨bc.p.blk.cell 20,fJ bc (id:=id) a6 ar⟩;have ac:=A?<|RP id y.p.q;have ca:=bW h L;have cp:=h.p.blk.lt;have d1:=h.n01;obtain⟨B,hB⟩:=F?<|x.f id;have a2:=A?<|C _ _ _ y;obtain⟨c4,ae⟩:=F? x.q;rw[hB]at ca C a2|-;rw[ae]at C a2 ac;have HQB:=A? ae;have ax:=A? hB;clear hB ae h H L be y;unfold ptr at*
 go_wp2
 refine dW (λj=>L! j b 20 (P? c4)/\J? j B 2 id) (zcb [9,1]) (a2) ?_;refine R? ?_;intro K g;go_wp2_with(go_at_call 273;apply ac.mono;rintro e d4 ⟨rfl,ck,hq3,bf⟩);obtain⟨a4,bi⟩:=vQ b6 bf mbT;apply O! g (C _ _ _ a4);clear g K;apply aj;obtain⟨I,F⟩:∃I:aF,{z.1 with queue:=(pG z.1.queue id).1}=I:=⟨_,rfl⟩;have a7:E!<|au I.links id=true:=A? (by rw[<-F];exact a6);have bx:E!<|(lk I id).id=id:=A? (by rw[<-F];exact ar);rw[F]at a4;have D:=ng 5 (id:=id) a4 a7 bx;rw[ax.out]at D;have D:=A? D;have b7:=A?<|(aB (bG n) G w).trans bi;have a0:=A? F;clear a4 bf bi hq3 F ac b6;unfold ptr at D;go_wp2_with(go_at_call 151;apply D.mono;rintro e Y ⟨rfl,J,X,an,bj,bl⟩);obtain⟨f,R⟩:=F?<|bC I id 5;have c8:E!<|∀k,au z.1.links k=C?->au I.links k=true:=A? (by rw[<-a0.out];exact λk h=>h);have b8:=A?<|λk (L:au z.1.links k=C?)=>bl k<|c8 k L;have Z:E!<|au f.links id=true:=A? (by rw[<-R];exact(aG (λl=>{l with phase:=5}) a7 id).trans a7);have b2:E!<|f.now=z.1.now:=A? (by rw[<-R,<-a0.out];rfl);have b0:E!<|f.c=z.1.c:=A? (by rw[<-R,<-a0.out];rfl);have az:=A?<|(b8 id a6).trans ax;have c6:=A? R;rw[R]at an;have b4:=A? an;have c1:=A?<|b7.trans bj;clear an bj bl R D b7 C a2;obtain⟨M,ap⟩:=F? z.1.now;obtain⟨a8,ad⟩:=F?<|dP z.1;obtain⟨cb,cc⟩:=c5.out;obtain⟨cd,ce⟩:=c0.out;rw[ap]at cb cc b2;rw[ad]at cd ce;have ch:=A? ap;have b9:=A? ad;clear ap ad;have y:=b4.drew;have a1:J? Y.drew b 25 f.now:=y.p.blk.k 25;rw[b2.out]at a1;have a9:=b5 _ X f y.p.blk b0;rw[show dP f=dP z.1 by unfold dP;rw[b0.out],b9]at a9;have aa:=A? a9;have b1:=A? y;have cn:=y.p.blk.lt;have cf:=bW y Z;rw[az.out]at cf;clear y a9 b4 b5;unfold ptr at aa;go_wp2;refine dW (λj=>J? j b 25 M) (zcb [8,1,3,1,2,1]) (a1) ?_;refine R? ?_;intro K g;go_wp2_with(go_at_call 224;refine M! aa λu ag=>?_);have ab:=aw ag a1;apply O! g ab;clear g K;refine tK ?_;obtain⟨W,bk⟩:=b1.below ag;have c2:=A?<|(c1.trans<|aB (bG n) J Y).trans bk;obtain⟨cj,a5⟩:=W.aR Z;have am:∀(V:D!) (E:aM) (a3:Only (λk=>k=X.f id) u V) (ba:E.neg=(lk f id).neg/\E.proof=(lk f id).proof/\E.term=(lk f id).term/\E.out=(lk f id).out) (bd:aO V (X.f id) 107<|bS cj E),aS V (grow (grow J Y.drew.heap.size free) u.heap.size free) n b sb X (bH f id E,z.2)/\Step (bG n) (grow J Y.drew.heap.size free) u (grow (grow J Y.drew.heap.size free) u.heap.size free) V:=λV E a3 ba bd=>W.oq Z a5 a3 ba bd;have al:=ni W Z;have O:=a5.blk;have c7:=a5.blk.lt;have co:=W.p.blk.lt;rw[az.out]at am al O c7;have b3:=A? am;have bv:=A? O;have ao:E!<|∀j,Only (λk=>k=B) u j->J? j b 25 M:=A? λj a3=>a3.cell ab<|X? al;obtain⟨d3,cv⟩:∃v,L! u B 6 v:=⟨_,O.cell 6⟩;obtain⟨d2,cr⟩:∃v,L! u B 11 v:=⟨_,O.cell 11⟩;have cz:=O.frozen 6;have cy:=O.frozen 11;clear a5 O al W bk am aa b1 ab a1 ag;refine ai λK g=>?_;go_wp2_with fail;refine O! g (ao _<|ay u B 6 _) ?_;clear g K;refine R? ?_;intro K g;go_wp2_with fail;refine O! g (ao _<|(ay u B 6 _).trans<|ay _ B 11 _) ?_;clear g K;apply aj;obtain⟨bo,bs⟩:=b3 _ {lk f id with drop:=A,over:=M+a8} ((ay u B 6<|A! A).trans<|ay _ B 11<|A!<|M+a8) ⟨rfl,rfl,rfl,rfl⟩<|(bv.set 6 (A! A) rfl).set 11 _ rfl;have bz:=A? bo;have c3:=A?<|c2.trans bs;clear bo bs b3 ao;go_wp2;go_end0;refine⟨rfl,_,X,?_,c3,b8⟩
 have e:uD z.1 id A=bH f id {lk f id with drop:=A,over:=M+a8}:=by
  rw[<-c6.out,<-a0.out,<-ch.out,<-b9.out];rfl
 rw[e];exact bz
theorem EC{t:Type}{l:KV t}(d:(l.map (·.1)).Nodup)(q:Int×t->Bool){k:Int}{v:t}(h:(k,v)∈l):((dB l k).filter q).length+(if q (k,v)then 1 else 0)=(l.filter q).length:=by
 let⟨j,o,e⟩:=List.mem_iff_getElem.1 h;have i:l[j]? =C! (k,v):=by rw[ο o,e]
 rw[E1 d i rfl];have c:l=l.take j++(k,v)::l.drop (j+1):=by rw[<-e,<-bbT o,mgm]
 have s:=List.eraseIdx_eq_take_drop_succ l j;rw[s]
 conv=>rhs;rw[c]
 rw[baR,baR,k?];split<;>simp<;>omega
theorem Ji(w:D!){B:Nat}{y:pV}{l:aM}(h:aO w B 107<|bS y l):G! E? 171 #[ptr B] w (T! w<|H?<|K? (l.phase=4)):=by
 have f:=h.k 3;generalize l.phase=u at f|-;unfold ptr;by_cases d:u=4
 .subst d;go_wp2;go_ret;exact⟨rfl,rfl⟩
 .have g:=Q?.2 d;go_wp2;go_ret;refine⟨?_,rfl⟩;simp[d]
theorem Ih(h:cg w G n b x m)(V:m.links.length<=8):G! E? 129 #[ptr b,.func (.func 171) #[] #[]] w λe ab=>e=.returned (A! ((m.links.filter λx=>K? (x.2.phase=4)).length:Int))/\K! w ab:=by
 have ad:=h.blk.k 29;have ae:=h.blk.lt;have a4:=A? h.lm;have an:=h.lm.lt;have J:=A? h.nodup
 have Q:E!<|∀k l,(k,l)∈m.links->∃y,aO w (x.f k) 107<|bS y l:=A? λk l E=>by
  let⟨y,d⟩:=h.link k l E;exact⟨y,d.blk⟩
 obtain⟨q,D⟩:∃q:Int×aM->Bool,(λx=>K? (x.2.phase=4))=q:=⟨_,rfl⟩;have Z:E!<|∀k l,q (k,l)=(decide (l.phase=4)):=A? λk l=>by rw[<-D]
 rw[D];have a9:(m.links.filter q).length<=8:=Z? (ϝ _ _) V;clear h D V;let⟨a3,H⟩:=F?<|(m.links.filter q).length;rw[H]at a9|-;have a1:=A? H;clear H;unfold ptr at*
 go_in
 go_wp2_with(refine jH rfl _ rfl underlying90 a4 rfl λw1 Y aa a5 al=>?_);simp only[Act.put,υ,ϑ,ϊ];go_loopw[5] (λv wr=>∃(c:Nat) (left:KV aM),v=A! (c:Int)/\gP wr w.heap.size x.lm (dY (λk _=>P?<|x.f k) left)/\K! w wr/\E! ((left.map (·.1)).Nodup)/\E! (∀y∈left,y∈m.links)/\c+(left.filter q).length=a3) (λ_ wr=>Ei wr w.heap.size x.lm)
 case atStart=>exact⟨0,m.links,rfl,Y,a5,J,A? (λy d=>d),by have:=a1.out;omega⟩
 case round=>
  obtain⟨c,left,rfl,B,S,hnd,C,F⟩:=hrel;have j:=iB B;clear Y aa
  go_wp2_with(first
   |(refine kF rfl _ rfl B bbk rfl (λa6=>?_) (λk v w2 E X K am=>?_)
     rotate_left
     obtain⟨l,g,rfl⟩:=vF E;have L:=S.trans<|K.below S.size λb e=>bbW;let⟨y,d⟩:=Q k l<|C.out _ g;have W:aO w2 (x.f k) 107<|bS y l:=(L.block _ d.lt).trans d;have A:=A?<|Ji w2 W;have I:=A?<|EC hnd.out q g;have ac:=A? g;have O:=A? X;have a0:=A?<|Z k l;let⟨a2,R⟩:=F?<|q (k,l);rw[<-a0.out,R]at A;rw[R]at I;unfold ptr at A;clear K E X d W R
     rotate_left)
   |(apply iD rfl _ rfl O rfl)
   |(refine M! A λao ag=>?_;cases a2))
  .have a7:=tf a6;rw[a7]at F;simp at F;subst F;go_ret;exact⟨rfl,S⟩
  .have u:=O.1;rw[fZ]at u;have M:=I.out;rw[F! N!]at M;have a8:=mH hnd.out g;have f:=iB u;rw[dN]at f j;exact⟨⟨c,dB left k,rfl,u,L,A?<|fM hnd.out k,A? (λy d=>C.out y<|lF d),B!⟩,by rw[f,j];omega⟩
  .have u:=O.1;rw[fZ]at u;have M:=I.out;rw[G? trivial]at M;have a8:=mH hnd.out g;have f:=iB u;rw[dN]at f j;exact⟨⟨c+1,dB left k,by rw[Int.natCast_succ],u,L,A?<|fM hnd.out k,A? (λy d=>C.out y<|lF d),B!⟩,by rw[f,j];omega⟩
theorem Jj(w:D!){B:Nat}{y:pV}{l:aM}(h:aO w B 107<|bS y l):G! E? 130 #[ptr B] w (T! w<|H?<|K? (l.phase≠4)):=by
 have f:=h.k 3;generalize l.phase=u at f|-;unfold ptr;by_cases d:u=4
 .subst d;go_wp2;go_ret;exact⟨rfl,rfl⟩
 .have g:=Q?.2 d;go_wp2;go_ret;refine⟨?_,rfl⟩;simp[d]
theorem Ii(h:cg w G n b x m)(V:m.links.length<=8):G! E? 129 #[ptr b,.func (.func 130) #[] #[]] w λe ab=>e=.returned (A! ((m.links.filter λx=>K? (x.2.phase≠4)).length:Int))/\K! w ab:=by
 have ad:=h.blk.k 29;have ae:=h.blk.lt;have a4:=A? h.lm;have an:=h.lm.lt;have J:=A? h.nodup
 have Q:E!<|∀k l,(k,l)∈m.links->∃y,aO w (x.f k) 107<|bS y l:=A? λk l E=>by
  let⟨y,d⟩:=h.link k l E;exact⟨y,d.blk⟩
 obtain⟨q,D⟩:∃q:Int×aM->Bool,(λx=>K? (x.2.phase≠4))=q:=⟨_,rfl⟩;have Z:E!<|∀k l,q (k,l)=(decide (l.phase≠4)):=A? λk l=>by rw[<-D]
 rw[D];have a9:(m.links.filter q).length<=8:=Z? (ϝ _ _) V;clear h D V;let⟨a3,H⟩:=F?<|(m.links.filter q).length;rw[H]at a9|-;have a1:=A? H;clear H;unfold ptr at*
 go_in
 go_wp2_with(refine jH rfl _ rfl underlying90 a4 rfl λw1 Y aa a5 al=>?_);simp only[Act.put,υ,ϑ,ϊ];go_loopw[5] (λv wr=>∃(c:Nat) (left:KV aM),v=A! (c:Int)/\gP wr w.heap.size x.lm (dY (λk _=>P?<|x.f k) left)/\K! w wr/\E! ((left.map (·.1)).Nodup)/\E! (∀y∈left,y∈m.links)/\c+(left.filter q).length=a3) (λ_ wr=>Ei wr w.heap.size x.lm)
 case atStart=>exact⟨0,m.links,rfl,Y,a5,J,A? (λy d=>d),by have:=a1.out;omega⟩
 case round=>
  obtain⟨c,left,rfl,B,S,hnd,C,F⟩:=hrel;have j:=iB B;clear Y aa
  go_wp2_with(first
   |(refine kF rfl _ rfl B bbk rfl (λa6=>?_) (λk v w2 E X K am=>?_)
     rotate_left
     obtain⟨l,g,rfl⟩:=vF E;have L:=S.trans<|K.below S.size λb e=>bbW;let⟨y,d⟩:=Q k l<|C.out _ g;have W:aO w2 (x.f k) 107<|bS y l:=(L.block _ d.lt).trans d;have A:=A?<|Jj w2 W;have I:=A?<|EC hnd.out q g;have ac:=A? g;have O:=A? X;have a0:=A?<|Z k l;let⟨a2,R⟩:=F?<|q (k,l);rw[<-a0.out,R]at A;rw[R]at I;unfold ptr at A;clear K E X d W R
     rotate_left)
   |(apply iD rfl _ rfl O rfl)
   |(refine M! A λao ag=>?_;cases a2))
  .have a7:=tf a6;rw[a7]at F;simp at F;subst F;go_ret;exact⟨rfl,S⟩
  .have u:=O.1;rw[fZ]at u;have M:=I.out;rw[F! N!]at M;have a8:=mH hnd.out g;have f:=iB u;rw[dN]at f j;exact⟨⟨c,dB left k,rfl,u,L,A?<|fM hnd.out k,A? (λy d=>C.out y<|lF d),B!⟩,by rw[f,j];omega⟩
  .have u:=O.1;rw[fZ]at u;have M:=I.out;rw[G? trivial]at M;have a8:=mH hnd.out g;have f:=iB u;rw[dN]at f j;exact⟨⟨c+1,dB left k,by rw[Int.natCast_succ],u,L,A?<|fM hnd.out k,A? (λy d=>C.out y<|lF d),B!⟩,by rw[f,j];omega⟩
theorem ED(h:cg w G n b x m)(l:m.links.length<=8):G! E? 125 #[ptr b] w (S? w<|A!<|iI m):=by
 have e:=A?<|Ih h l;have o:E!<|iI m=((m.links.filter λx=>K? (x.2.phase=4)).length:Int):=A? rfl;rw[o.out];obtain⟨t,i⟩:∃t:Nat,(m.links.filter λx=>K? (x.2.phase=4)).length=t:=⟨_,rfl⟩;rw[i]at e|-;unfold ptr at*
 go_in
 go_wp2_with(go_at_call 129;refine M! e λw1 s=>?_);go_ret;exact⟨rfl,s⟩
theorem Kr(i s:Int)(w:D!)(e:0<=i/\i<=1000000)(t:0<=s/\s<=1000000):G! E? 203 #[A! i,A! s] w (T! w<|A!<|pZ i s):=by
 obtain⟨o,l⟩:=e;obtain⟨d,c⟩:=t;unfold pZ;exact d?
theorem Bx{p:aF}{t:List bD}{k:Int}(h:nC p t=C! k):au p.links k=true:=by
 unfold nC at h;split at h
 .cases h
 .split at h
  .rename_i e;cases h;exact e
  .cases h
def vW(p:aF)(q:cR)(id:Int):aF:=if q.code=2 then{p with vo:=id}else if q.code=6 then mD p q.opts id else p
theorem C5{q:Nat}{v:I?}(B:cR)(mk:Int)(h:aS w G n b sb x z)(S:Fit N r z)(W:N<=40000000000)(D:J? w q 0 B.code)(a4:L! w q 3 v)(R:aI w v B.opts)(L:∀o∈B.opts,o.2.size<=4611686018427387904):
 G! E? 206 #[ptr b,ptr q,A! mk] w (fu n b sb G w x z (vW z.1 B mk,z.2) (.tuple #[])):=by
 have Z:=h.p.blk.lt;have X:=h! D;simp only at X;have s:=A?<|Bw h.p R L;have C:=A?<|λ(w1:D!) (hb:K! w w1) k (f:au z.1.links k=C?)=>Hy mk (h.below hb).1 S.p W f;have EW:=A?<|λ(w1:D!) (hb:K! w w1) k (f:au z.1.links k=C?)=>(h.below hb).1.aR f;have l:=A?<|λ(w1:D!) (hb:K! w w1)=>h.below hb;have H:=A? h;obtain⟨a6,Q⟩:∃v,L! w b 34 v:=⟨_,h.p.blk.cell 34⟩;have a1:=h.p.blk.frozen 34;have O:E!<|aS (w.setCell (B? b 34)<|A! mk) (grow G w.heap.size free) n b sb x ({z.1 with vo:=mk},z.2)/\Step (bG n) G w (grow G w.heap.size free) (w.setCell (B? b 34)<|A! mk):=A?<|h.own (ay w b 34<|A! mk) (h.p.blk.set 34 _ rfl) rfl rfl rfl rfl rfl rfl rfl rfl;have t:E!<|vW z.1 B mk=if B.code=2 then{z.1 with vo:=mk}else if B.code=6 then(match nC z.1 B.opts with|none=>z.1|some k=>if(lk z.1 k).phase=4 then uD z.1 k mk else z.1)else z.1:=A? rfl
 generalize B.code=E at D t;clear h S R L;unfold ptr at*
 by_cases c:E=2
 .subst c;go_wp2;go_end0;refine⟨rfl,_,x,?_,O.2,λ_ _=>rfl⟩;rw[t.out,G? trivial];exact O.1
 .have a2:=Q?.2 c;by_cases u:E=6
  .subst u;cases i:nC z.1 B.opts with
   |none=>
    have M:E!<|vW z.1 B mk=z.1:=A? (by rw[t.out,i];rfl);rw[i]at s;unfold wV at s;clear i t;go_in;go_wp2_with(go_at_call 242;refine M! s λw1 e=>?_);go_end0;refine⟨rfl,_,x,?_,(l w1 e).2,λ_ _=>rfl⟩;rw[M.out];exact(l w1 e).1
   |some k=>
    have HK:=A?<|Bx i;have d:E!<|vW z.1 B mk=if(lk z.1 k).phase=4 then uD z.1 k mk else z.1:=A? (by rw[t.out,i];rfl)
    rw[i]at s;unfold wV ptr at s;clear i t;let⟨I,j⟩:=F?<|(lk z.1 k).phase;have HPH:=A? j;rw[j]at d;clear j
    have A:E!<|∀w1,K! w w1->w1.cell? (B? (x.f k) 3)=N? I:=A? λw1 hb=>by
     exact nbt
    by_cases g:I=4
    .subst g;go_in;go_wp2_with(first|(go_at_call 242;refine M! s λw1 e=>?_;have F:=A w1 e)|(go_at_call 243;apply(C w1 e k HK).mono;rintro a0 w2 ⟨rfl,G2,J,Y,V,K⟩));go_end0;refine⟨rfl,G2,J,?_,(l w1 e).2.trans V,K⟩;rw[d.out,G? trivial];exact Y
    .have a5:=Q?.2 g;go_in;go_wp2_with(go_at_call 242;refine M! s λw1 e=>?_;have F:=A w1 e);go_end0;refine⟨rfl,_,x,?_,(l w1 e).2,λ_ _=>rfl⟩;rw[d.out,F! g];exact(l w1 e).1
  .have a3:=Q?.2 u;go_wp2;go_end0;refine⟨rfl,G,x,?_,Step.refl _ _ _,λ_ _=>rfl⟩;rw[t.out,F! c,F! u];exact H
theorem PK{q:Nat}{v:I?}(B:cR)(mk:Int)(h:aS w G n b sb x z)(b2:z.1.links.length<=8)(ap:J? w q 0 B.code)(ba:L! w q 3 v)(am:aI w v B.opts)(ao:∀o∈B.opts,o.2.size<=4611686018427387904):
 G! E? 205 #[ptr b,ptr q,A! mk] w (S? w<|H?<|jq z B mk):=by
 have b5:=h.p.blk.lt;have b4:=h! ap;simp only at b4;have y:=A?<|Bw h.p am ao;have ar:=A?<|λ(w1:D!) (E:K! w w1) k (b1:au z.1.links k=C?)=>(h.below E).1.aR b1;have W:=A?<|λ(w1:D!) (E:K! w w1)=>ED (h.below E).1.p b2;have A:=h.drew;have Y:=A?<|Oj z.1.side A.s
 have F:w.drew.cell? (B? b 27)=C! (ptr sb):=by
  have:L! w.drew b 27<|vE x.s:=A.p.blk.cell 27;rw[this,h.xs];rfl
 have D:=A.p.blk.k 18;have H:=A.p.blk.k 0;have L:=A.p.blk.k 1
 have HG:E! (jq z B mk=if B.code=1 then K? (qY z.2 z.1.side<z.1.c.aV)&&K? (iI z.1<z.1.c.links)
  else if B.code=5 then(match nC z.1 B.opts with
   |none=>H!
   |some k=>(decide ((lk z.1 k).phase=4)&&K? (1<iI z.1))||(decide ((lk z.1 k).phase=5)&&K? ((lk z.1 k).drop=mk)))
  else H!):=A? rfl
 let⟨a8,ab⟩:=F? B.code;let⟨aa,ag⟩:=F? z.1.side;let⟨a0,ae⟩:=F? z.1.c.aV;let⟨a9,ad⟩:=F? z.1.c.links;let⟨a7,ac⟩:=F?<|qY z.2 aa;let⟨V,al⟩:=F?<|iI z.1;rw[ab]at ap HG;rw[ag]at D HG Y;rw[ae]at H HG;rw[ad]at L HG;rw[al]at W HG;rw[ac]at Y HG;clear h A am ao ab ag ae ad ac al;unfold ptr at*
 by_cases a2:a8=1
 .subst a2;have j:E!<|jq z B mk=(decide (a7<a0)&&K? (V<a9)):=A? (by rw[HG.out,G? rfl]);clear HG y;go_wp2;refine dW (λX=>L! X b 27 (P? sb)/\J? X b 18 aa/\J? X b 0 a0/\J? X b 1 a9) (zca [0,2,4,6,8,10,12,14,18,20,22,24,26,17,28,30,32,36,38,40,42,44,35,46,48,50]) (⟨F,D,H,L⟩) ?_;refine R? ?_;intro K R;go_wp2_with(go_at_call 114;refine M! Y λbe b6=>?_);refine O! R ⟨F,D,H,L⟩ ?_;clear R K;by_cases E:a7<a0
  .have b0:=b! E;refine R? ?_;intro K R;go_wp2_with(go_at_call 125;refine M! (W _<|aQ U?) λw2 f=>?_);refine O! R ⟨aw f F,aw f D,aw f H,aw f L⟩ ?_;clear R K;refine T? ?_;go_wp2;go_ret;refine⟨?_,(aQ<|P! w.heap.size w).trans f⟩;rw[j.out,b! E,maS];rfl
  .have b0:=W? E;have M:E!<|jq z B mk=false:=A? (by rw[j.out,W? E,mcY]);refine R? ?_;intro K R;go_wp2_with fail;refine O! R ⟨F,D,H,L⟩ ?_;clear R K;refine T? ?_;go_wp2;go_ret;refine⟨?_,aQ<|P! w.heap.size w⟩;rw[M.out];rfl
 .have b8:=Q?.2 a2;clear F D H L Y;by_cases a3:a8=5
  .subst a3;cases hnm:nC z.1 B.opts with
   |none=>
    have g:E!<|jq z B mk=false:=A? nas;rw[hnm]at y;unfold wV at y;clear hnm HG;go_in;go_wp2_with(go_at_call 242;refine M! y λw1 u=>?_);go_ret;exact⟨by rw[g.out];rfl,u⟩
   |some k=>
    have av:=A?<|Bx hnm;have j:E!<|jq z B mk=((decide ((lk z.1 k).phase=4)&&K? (1<V))||(decide ((lk z.1 k).phase=5)&&K? ((lk z.1 k).drop=mk))):=A? nas;rw[hnm]at y;unfold wV ptr at y;clear hnm HG;let⟨Z,a6⟩:=F?<|(lk z.1 k).phase;let⟨J,a1⟩:=F?<|(lk z.1 k).drop
    have C:E!<|∀w1,K! w w1->w1.cell? (B? (x.f k) 3)=N? Z/\w1.cell? (B? (x.f k) 6)=N? J:=A? λw1 E=>by
     let⟨bf,an⟩:=ar w1 E k av;have ax:=an.blk.k 3;have az:=an.blk.k 6;rw[ax,az,a6,a1];exact⟨rfl,rfl⟩
    rw[a6,a1]at j;clear a6 a1;by_cases a4:Z=4
    .subst a4;have g:E!<|jq z B mk=K? (1<V):=A? (by rw[j.out];simp);clear j;by_cases hs:1<V
     .have b3:=b! hs;go_in;go_wp2_with(first|(go_at_call 242;refine M! y λw1 u=>?_;let⟨O,I⟩:=C w1 u)|(go_at_call 125;refine M! (W w1 u) λw2 f=>?_;have O:=aw f O;have I:=aw f I));go_ret;exact⟨by rw[g.out,b! hs];rfl,u.trans<|f.mono u.size⟩
     .have b3:=W? hs;have M:E!<|jq z B mk=false:=A? (by rw[g.out,W? hs]);go_in;go_wp2_with(first|(go_at_call 242;refine M! y λw1 u=>?_;let⟨O,I⟩:=C w1 u)|(go_at_call 125;refine M! (W w1 u) λw2 f=>?_;have O:=aw f O;have I:=aw f I));go_ret;exact⟨by rw[M.out];rfl,u.trans<|f.mono u.size⟩
    .have bc:=Q?.2 a4;by_cases a5:Z=5
     .subst a5;have g:E!<|jq z B mk=K? (J=mk):=A? (by rw[j.out];simp);clear j;by_cases A:J=mk
      .subst A;go_in;go_wp2_with(go_at_call 242;refine M! y λw1 u=>?_;let⟨O,I⟩:=C w1 u);go_ret;exact⟨by rw[g.out];simp,u⟩
      .have b7:=Q?.2 A;have M:E!<|jq z B mk=false:=A? (by rw[g.out,W? A]);go_in;go_wp2_with(go_at_call 242;refine M! y λw1 u=>?_;let⟨O,I⟩:=C w1 u);go_ret;exact⟨by rw[M.out];rfl,u⟩
     .have bd:=Q?.2 a5;have g:E!<|jq z B mk=false:=A? (by rw[j.out];simp[a4,a5]);clear j;go_in;go_wp2_with(go_at_call 242;refine M! y λw1 u=>?_;let⟨O,I⟩:=C w1 u);go_ret;exact⟨by rw[g.out];rfl,u⟩
  .have b9:=Q?.2 a3;have g:E!<|jq z B mk=false:=A? (by rw[HG.out,F! a2,F! a3]);clear HG;go_wp2;go_ret;exact⟨by rw[g.out];rfl,P! _ _⟩
