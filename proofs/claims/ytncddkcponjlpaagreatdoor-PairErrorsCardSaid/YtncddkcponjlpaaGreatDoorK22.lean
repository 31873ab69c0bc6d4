/- Walks and plain laws. -/
import Derived.Test.YtncddkcponjlpaaGreatDoorK20
set_option linter.unusedVariables false
set_option linter.unusedSimpArgs false
set_option maxHeartbeats 0
set_option maxRecDepth 99999
namespace Go.Proofs.YtncddkcponjlpaaGreatDoor
open Go.RowKit Go.Proofs.Tryz
open Go renaming World→D!,Value→I?,Calls→G!,IntKind→ncy
open Go.RowKit renaming Hid→E!
open Decidable renaming decide→K?
open Option renaming some→C!,none→L?
open Bool renaming true→C?,false→H!
open Go.Proofs.Tryz renaming prog→E?
variable{P:Prop}
theorem NR(t o:Int)(T:ByteArray)(h:T.size<=2044):strOfNums [t,o,(4+(T.size:Int))/256,(4+(T.size:Int))%256]++T=bytesOf ([UInt8.ofNat t.toNat,UInt8.ofNat o.toNat,UInt8.ofNat<|(4+T.size)/256,UInt8.ofNat<|(4+T.size)%256]++T.data.toList):=by
 have e:=Zc t o (4+T.size) B!;have i:((4+T.size:Nat):Int)=4+(T.size:Int):=B!;rw[i]at e;rw[e];apply mcK;simp[bytesOf]
theorem Rh(v:I?)(t o:Int)(s:List bD)(i:ByteArray)(w:D!)(l:List UInt8)(e:Int)(u r d:Bool)
 (hput:∀w,aI w v s->G! E? 211 #[v] w (S? w (.tuple #[D?<|bytesOf l,A! e])))
 (hcf:∀w,G! E? 190 #[A! t] w (T! w<|H? u))
 (ho1:∀w,G! E? 212 #[A! t] w (T! w<|H? r))
 (ho2:∀w,G! E? 212 #[A! o] w (T! w<|H? d))
 (h:aI w v s)(m:r=C?)(g:d=C?)(y:e=0)(T:ByteArray)(z:bytesOf l++i=T)(O:¬9223372036854775807<(bytesOf l).size+i.size)(D:T.size<=4611686018427390000)(E:0<=t)(A:t<=255)(N:0<=o)(S:o<=255)(b:u=H!)(j:s=[])(q:T.size<=2044):
 G! E? 166 #[.agg #[A! t,A! o,v,D? i]] w (S? w (.tuple #[D?<|bytesOf<|[UInt8.ofNat t.toNat,UInt8.ofNat o.toNat,UInt8.ofNat<|(4+T.size)/256,UInt8.ofNat<|(4+T.size)%256]++T.data.toList,A! 0])):=by
 subst m g;subst y;have C:IntKind.i64.wrap (4+(T.size:Int))=4+(T.size:Int):=ϫ _ B!;have H:¬(2048:Int)<4+(T.size:Int):=B!;have I:∀w3:D!,(convert 64 9<|J! (C!<|B? w3.heap.size 0) 4 4).run E? (w3.alloc (.cells #[.int .u8 t,.int .u8 o,.int .u8<|(4+(T.size:Int))/256,.int .u8<|(4+(T.size:Int))%256] 5))=.ok (D?<|strOfNums [t,o,(4+(T.size:Int))/256,(4+(T.size:Int))%256]) (w3.alloc (.cells #[.int .u8 t,.int .u8 o,.int .u8<|(4+(T.size:Int))/256,.int .u8<|(4+(T.size:Int))%256] 5)):=λw3=>Zd _ _ _ _ _ _ _<|c! _ _;have L:(strOfNums [t,o,(4+(T.size:Int))/256,(4+(T.size:Int))%256]).size=4:=ν _;have HF:=A?<|NR t o T q;subst b j;obtain⟨n,c,rfl,_,_⟩:=aD.form h;simp only[l?]at h hput|-;have hbx:K! w<|w.alloc (.cells #[A! t,A! o,J! n 0 c,D? i] 220):=R!;have pre:=h.below hbx;have d0:=j! w #[A! t,A! o,J! n 0 c,D? i] 220 0;have d1:=j! w #[A! t,A! o,J! n 0 c,D? i] 220 1;have d2:=j! w #[A! t,A! o,J! n 0 c,D? i] 220 2;have d3:=j! w #[A! t,A! o,J! n 0 c,D? i] 220 3;exact ncX
theorem Ri(v:I?)(t o:Int)(d:List bD)(i:ByteArray)(w:D!)(l:List UInt8)(e:Int)(r n s:Bool)
 (hput:∀w,aI w v d->G! E? 211 #[v] w (S? w (.tuple #[D?<|bytesOf l,A! e])))
 (hcf:∀w,G! E? 190 #[A! t] w (T! w<|H? r))
 (ho1:∀w,G! E? 212 #[A! t] w (T! w<|H? n))
 (ho2:∀w,G! E? 212 #[A! o] w (T! w<|H? s))
 (h:aI w v d)(c:n=C?)(u:s=C?)(m:e=0)(T:ByteArray)(b:bytesOf l++i=T)(z:¬9223372036854775807<(bytesOf l).size+i.size)(H:T.size<=4611686018427390000)(j:0<=t)(q:t<=255)(A:0<=o)(O:o<=255)(g:r=C?)(I:i.toList=[])(y:T.size<=2044):
 G! E? 166 #[.agg #[A! t,A! o,v,D? i]] w (S? w (.tuple #[D?<|bytesOf<|[UInt8.ofNat t.toNat,UInt8.ofNat o.toNat,UInt8.ofNat<|(4+T.size)/256,UInt8.ofNat<|(4+T.size)%256]++T.data.toList,A! 0])):=by
 subst c u;subst m;have L:IntKind.i64.wrap (4+(T.size:Int))=4+(T.size:Int):=ϫ _ B!;have N:¬(2048:Int)<4+(T.size:Int):=B!;have E:∀w3:D!,(convert 64 9<|J! (C!<|B? w3.heap.size 0) 4 4).run E? (w3.alloc (.cells #[.int .u8 t,.int .u8 o,.int .u8<|(4+(T.size:Int))/256,.int .u8<|(4+(T.size:Int))%256] 5))=.ok (D?<|strOfNums [t,o,(4+(T.size:Int))/256,(4+(T.size:Int))%256]) (w3.alloc (.cells #[.int .u8 t,.int .u8 o,.int .u8<|(4+(T.size:Int))/256,.int .u8<|(4+(T.size:Int))%256] 5)):=λw3=>Zd _ _ _ _ _ _ _<|c! _ _;have S:(strOfNums [t,o,(4+(T.size:Int))/256,(4+(T.size:Int))%256]).size=4:=ν _;have HF:=A?<|NR t o T y;subst g;have hbx:K! w<|w.alloc (.cells #[A! t,A! o,v,D? i] 220):=R!;have pre:=h.below hbx;have d0:=j! w #[A! t,A! o,v,D? i] 220 0;have d1:=j! w #[A! t,A! o,v,D? i] 220 1;have d2:=j! w #[A! t,A! o,v,D? i] 220 2;have d3:=j! w #[A! t,A! o,v,D? i] 220 3;exact ncX
theorem JF{c:Int}(h:dw c=C?):0<=c/\c<=255:=by unfold dw at h;simp at h;exact h
theorem yP(v:I?)(p:bg)(w:D!)(h:aI w v p.opts)(H:p.data.size<=4611686018427387904):
 G! E? 166 #[.agg #[A! p.code,A! p.id,v,D? p.data]] w (S? w (.tuple #[D?<|bytesOf (aW p).1,A! (aW p).2])):=by
 have c:∀w,aI w v p.opts->_:=λw h=>Co v p.opts w h;have r:=λw=>NQ p.code w;have l:=λw=>JE p.code w;have d:=λw=>JE p.id w;have N:=VK p.opts;have R:=yO p.opts;obtain⟨o,i,e,t⟩:=p;dsimp only at*
 have I:(bytesOf (cA e).1++t).size=(cA e).1.length+t.size:=by rw[mcG,aA]
 have y:¬9223372036854775807<(bytesOf (cA e).1).size+t.size:=bbe;have O:(bytesOf (cA e).1++t).data.toList=(cA e).1++t.data.toList:=by simp[bytesOf]
 by_cases hb1:dw o=C?
 .by_cases hb2:dw i=C?
  .let⟨q,z⟩:=JF hb1;let⟨E,A⟩:=JF hb2;by_cases s:(cA e).2=0
   .by_cases u:pX o=C?
    .cases m:t.data.toList with
     |cons b S=>
      have n:aW ⟨o,i,e,t⟩=([],502):=by
       unfold aW;dsimp only;rw[F! bbL,G? (.inr (.inr ⟨u,by rw[m];simp⟩))]
      rw[n];exact VP v o i e t w _ _ _ _ _ c r l d h hb1 hb2 s u b S (by rw[dG];exact m)
     |nil=>
      have g:¬((cA e).2≠0\/(pX o=H!/\e≠[])\/(pX o=C?/\t.data.toList≠[])):=by
       rintro(h|h|h)
       .exact h s
       .rw[u]at h;exact absurd h.1 I!
       .exact h.2 m
      by_cases j:2044<(bytesOf (cA e).1++t).size
      .have n:aW ⟨o,i,e,t⟩=([],503):=by
        unfold aW;dsimp only;rw[F! bbL,F! g,G? B!]
       rw[n];exact Rg v o i e t w _ _ _ _ _ c r l d h hb1 hb2 s _ rfl y B! u (by rw[dG];exact m) j
      .have n:aW ⟨o,i,e,t⟩=([UInt8.ofNat o.toNat,UInt8.ofNat i.toNat,UInt8.ofNat<|(4+(bytesOf (cA e).1++t).size)/256,UInt8.ofNat<|(4+(bytesOf (cA e).1++t).size)%256]++(bytesOf (cA e).1++t).data.toList,0):=by
        unfold aW;dsimp only;rw[F! bbL,F! g,F! B!,I,O]
       rw[n];exact Ri v o i e t w _ _ _ _ _ c r l d h hb1 hb2 s _ rfl y B! q z E A u (by rw[dG];exact m) B!
    .have k:=z! _▸u;by_cases f:e=[]
     .have g:¬((cA e).2≠0\/(pX o=H!/\e≠[])\/(pX o=C?/\t.data.toList≠[])):=by
       rintro(h|h|h)
       .exact h s
       .exact h.2 f
       .exact u h.1
      by_cases j:2044<(bytesOf (cA e).1++t).size
      .have n:aW ⟨o,i,e,t⟩=([],503):=by
        unfold aW;dsimp only;rw[F! bbL,F! g,G? B!]
       rw[n];exact Rf v o i e t w _ _ _ _ _ c r l d h hb1 hb2 s _ rfl y B! k f j
      .have n:aW ⟨o,i,e,t⟩=([UInt8.ofNat o.toNat,UInt8.ofNat i.toNat,UInt8.ofNat<|(4+(bytesOf (cA e).1++t).size)/256,UInt8.ofNat<|(4+(bytesOf (cA e).1++t).size)%256]++(bytesOf (cA e).1++t).data.toList,0):=by
        unfold aW;dsimp only;rw[F! bbL,F! g,F! B!,I,O]
       rw[n];exact Rh v o i e t w _ _ _ _ _ c r l d h hb1 hb2 s _ rfl y B! q z E A k f B!
     .have n:aW ⟨o,i,e,t⟩=([],502):=by
       unfold aW;dsimp only;rw[F! bbL,G? (.inr (.inl ⟨k,f⟩))]
      rw[n];exact VO v o i e t w _ _ _ _ _ c r l d h hb1 hb2 s k<|ϛ.2 f
   .have n:aW ⟨o,i,e,t⟩=([],502):=by
     unfold aW;dsimp only;rw[F! bbL,G? (.inl s)]
    rw[n];exact Ze v o i e t w _ _ _ _ _ c r l d h hb1 hb2 (by rcases N with h|h|h;exact absurd h s;exact .inl h;exact .inr h)
  .have n:aW ⟨o,i,e,t⟩=([],501):=by
    unfold aW;dsimp only;rw[G? (.inr<|z! _▸hb2)]
   rw[n];exact VN v o i e t w _ _ _ _ _ c r l d h hb1<|z! _▸hb2
 .have n:aW ⟨o,i,e,t⟩=([],501):=by
   unfold aW;dsimp only;rw[G? (.inl<|z! _▸hb1)]
  rw[n];exact VM v o i e t w _ _ _ _ _ c r l d h<|z! _▸hb1
theorem cl.agG{w:D!}{q:Nat}{e t:I?}{r:cL}(h:cl w q e t r):
 J? w q 0 r.p.code/\J? w q (0+1) r.p.id/\L! w q (0+2) e/\L! w q (0+3) (D? r.p.data):=
 ⟨h.cell 0,h.cell 1,h.cell 2,h.cell 3⟩
theorem NY(p t q:Nat)(o u a7:I?)(s:cu)(r:cL)(w:D!)(h:bJ w p t o s)(hi:0<=s.id/\s.id<=255)(a5:cl w q u a7 r)(z:aI w u r.p.opts)(a6:r.p.data.size<=4611686018427387904):
 G! E? 210 #[P? p,A! 12,P? q] w λe b=>e=.returned (.tuple #[.agg #[A! 7,A! (oK s).id,Q!,D?<|bytesOf<|(aW r.p).1.take 64],H? C?])/\bJ b p t o (oK s)/\Only (· =p) w b:=by
 have hB:∀y:Obj,K! w<|w.alloc y:=λy=>ak U? y;have a4:=h.lt;have A:=λW (J:aI W u r.p.opts)=>yP u r.p W J a6;obtain⟨ax,az,rfl,a9,aa⟩:=aD.form z;have n:=hB (.cells xac 220);let⟨D,C,M,F⟩:=cl.agG<|a5.below n;have O:=c! w (.cells xac 220 (0,0))
 have hS:bytesOf ((aW r.p).1.take 64)=(bytesOf (aW r.p).1).extract 0 (min (bytesOf (aW r.p).1).size 64):=by
  rw[BK,show(bytesOf (aW r.p).1).data.toList=(aW r.p).1 by simp[bytesOf]];congr 1;rw[show(bytesOf (aW r.p).1).size=(aW r.p).1.length by simp[bytesOf,ByteArray.size]];rcases Nat.le_total (aW r.p).1.length 64 with h|h
  .rw[Nat.min_eq_left h,u? h,u?<|Y? _]
  .rw[Nat.min_eq_right h]
 rw[hS];let⟨S,j⟩:=F?<|bytesOf (aW r.p).1;let⟨ag,Z⟩:=F?<|(aW r.p).2;rw[j];rw[j,Z]at A;let⟨N,B⟩:=F?<|min S.size 64;have ar:min (S.size:Int) 64=(N:Int):=B!;have ap:N<=S.size:=B!;rw[B];have H:=λw1 (G:bJ w1 p t o s)=>F9 p t o s w1 G hi;generalize (oK s).id=g at H|-;go_in;go_wp2_with fail;generalize w.alloc (.cells xac 220)=W at D C M F O n|-;refine M! (A _<|z.below n) λw1 f=>?_;have a1:=(h.below n).below f;have a0:=bb f O;have Y:=seqB n f;have R:=bbY a4;go_wp2_with fail;have L:=H w1.drew a1;refine dW (λb=>True) (zca [0,4,6,8,10,12,3,14,17,18]) trivial ?_;refine R? ?_;intro K m;go_wp2_with(go_at_call 246;apply L.mono;rintro e a8 ⟨rfl,a2,I⟩);apply O! m trivial;refine tK ?_;have i:=I.heap (show w1.drew.heap[w.heap.size]? =_ from a0) λe=>R e.symm;have V:=(Only.aP Y.drew).trans I;let⟨ab,ac,ad,ae⟩:=cY i;have al:=bw i 0;have am:=bw i 1;have an:=bw i 2;have ao:=bw i 3;refine ai λK m=>?_;go_wp2_with fail;have E:=oF a8 w.heap.size (A! 7) (A! g) Q!<|D?<|S.extract 0 N;apply O! m trivial;refine T? ?_;have X:Only (· =p) w _:=V.and E λav hi=>.inr B!;have a3:=E.heap a2 R;let⟨k0,k1,k2,k3⟩:=cY<|lg i (A! 7) (A! g) Q!<|D?<|S.extract 0 N;go_wp2;refine V? (v:=.tuple #[.agg #[A! 7,A! g,Q!,D?<|S.extract 0 N],H? C?]) baK rfl ⟨rfl,a3,X⟩
structure tZ(w:D!)(p q:Nat)(po ov:I?)(r:cL):Prop where
 blk:cl w q po ov r
 opts:aI w po r.p.opts
 os:aI w ov r.os
 len:r.os.length<=1000000
 qp:q≠p
 pop:∀k,po.ownBlock=C! k->k≠p
 ovp:∀k,ov.ownBlock=C! k->k≠p
 size:r.p.data.size<=4611686018427387904
section
variable{w w':D!}{p q:Nat}{po ov:I?}{r:cL}(h:tZ w p q po ov r)
include h
theorem tZ.only(e:Only (· =p) w w'):tZ w' p q po ov r:=
 ⟨h.blk.only e h.qp,aD.only h.opts e h.pop,aD.only h.os e h.ovp,h.len,h.qp,h.pop,h.ovp,h.size⟩
theorem tZ.below(e:K! w w'):tZ w' p q po ov r:=h.only<|Only.aP e
end
theorem Gg(p t q:Nat)(o b y:I?)(s:cu)(l:Int)(r:cL)(w:D!)(h:bJ w p t o s)(g:kU s)(n:tZ w p q b y r)(R:∀k,o.ownBlock=C! k->k<w.heap.size):
 G! E? 210 #[P? p,A! l,P? q] w (Cq p t o s l r w):=by
 by_cases I:l=7
 .subst I;apply(Zi p t o s _ w h g.id g.left g.may).mono;rintro e f ⟨v,D,rfl,c,u,H,i,L⟩;exact⟨⟨1,(Vn s).asked,ju s.own,⟨#[]⟩⟩,v,D,rfl,λm hk=>baL hk,c,u,.inr H,i,L⟩
 by_cases z:l=10
 .subst z;apply(VU p t o s _ w h g.id g.left).mono;rintro e f ⟨rfl,u,i⟩;exact⟨⟨5,(oK<|lP s).id,[],⟨#[]⟩⟩,Q!,o,rfl,λm hk=>baL hk,bq.nil _ _ _,u,.inl ⟨rfl,rfl⟩,i,λk hk=>o!⟩
 by_cases N:l=8
 .subst N;apply(Zk p t q o b y s r w h n.blk n.os n.len n.qp n.ovp).mono;rintro e f ⟨v,rfl,c,u,i⟩;exact⟨⟨2,r.p.id,r.os,⟨#[]⟩⟩,v,o,rfl,λm hk=>baL hk,c,u,.inl ⟨rfl,rfl⟩,i,λk hk e=>by have:=c.block k hk;have:=R k e;omega⟩
 by_cases S:l=9
 .subst S;apply(Zj p q b y r w n.blk n.os n.len).mono;rintro e f ⟨v,rfl,c,i⟩;exact⟨⟨if r.verdict=2 then 4 else 3,r.p.id,r.os,⟨#[]⟩⟩,v,o,rfl,λm hk=>baL hk,c,h.below i,.inl ⟨rfl,rfl⟩,Only.aP i,λk hk e=>by have:=c.block k hk;have:=R k e;omega⟩
 by_cases E:l=11
 .subst E;refine M! (Le p q b y r w n.blk) λf i=>?_;exact⟨⟨6,if r.event=10 then r.p.id else 0,[],⟨#[]⟩⟩,Q!,o,rfl,λm hk=>baL hk,bq.nil _ _ _,h.below i,.inl ⟨rfl,rfl⟩,Only.aP i,λk hk=>o!⟩
 by_cases A:l=12
 .subst A;apply(NY p t q o b y s r w h g.id n.blk n.opts n.size).mono;rintro e f ⟨rfl,u,i⟩;exact⟨⟨7,(oK s).id,[],bytesOf<|(aW r.p).1.take 64⟩,Q!,o,rfl,λm hk=>baL hk,bq.nil _ _ _,u,.inl ⟨rfl,rfl⟩,i,λk hk=>o!⟩
 by_cases O:l=13
 .subst O;refine M! (VV p q b y r w n.blk) λf i=>?_;have d:nk s 13 r=(s,if r.p.code=9 then C! ⟨10,r.p.id,[],r.p.data⟩else L?):=rfl;refine⟨⟨10,r.p.id,[],r.p.data⟩,Q!,o,?_,?_,bq.nil _ _ _,?_,.inl ⟨rfl,?_⟩,Only.aP i,λk hk=>o!⟩
  .rw[d];by_cases j:r.p.code=9
   .rw[G? j,j];rfl
   .rw[F! j,Q?.2 j];rfl
  .rw[d];intro m hk;dsimp only at hk;split at hk
   .exact baL hk
   .cases hk
  .rw[d];exact h.below i
  .rw[d]
 .refine M! (VT p _ l w ⟨I,z,N,S,E,A,O⟩) λf i=>?_
  have d:nk s l r=(s,L?):=by
   unfold nk;rw[F! I,F! z,F! N,F! S,F! E,F! A,F! O]
  refine⟨pE,Q!,o,?_,?_,bq.nil _ _ _,?_,.inl ⟨rfl,?_⟩,Only.aP i,λk hk=>o!⟩
  .rw[d];rfl
  .rw[d];intro m hk;cases hk
  .rw[d];exact h.below i
  .rw[d]
abbrev nO:=bg×Option Addr×Nat
def EO(x:nO):Value:=J! x.2.1 x.1.opts.length x.2.2
def t6:Elem E? nO where
 tS:=192
 tE:=220
 size:=4
 bytes:=56
 z:=.agg #[A! 0,A! 0,Q!,D? ByteArray.empty]
 enc:=λx=>[A! x.1.code,A! x.1.id,J! x.2.1 x.1.opts.length x.2.2,D? x.1.data]
 und:=underlying192
 info:=M?
 zs:=rfl
 len:=λ_=>rfl
 one:=λa u hu=>by
  exact mea
 pos:=I!
theorem N7{P:Program}{f:Type}{g:Array Oper}{y:List Oper}{o:Oper}{d:Act}{w:D!}{Q:Exit->Act->D!->Prop}(E:Elem P f)(O:o.guard=L?)(s x:Operand)
 (R:o.op=.call {callee:=.builtin .append,args:= #[s,x],argTypes:= #[E.tS,E.tS]})
 (b:Nat)(V:b<=w.heap.size)(v:I?)(l:List f)(a:f)(c:Nat)(H:bq E w b v l)(D:d.eval s=v)(B:Nat)(M:d.eval x=J! (C!<|B? B 0) 1 c)(q:B=w.heap.size)
 (N:(l.length+1)*E.bytes<=140737488355328)(A:1<=E.bytes)
 (h:∀t r,bq E r b t (l++[a])->Only (λk=>v.ownBlock=C! k) w r->(t.ownBlock=v.ownBlock\/∃k,t.ownBlock=C! k/\w.heap.size<=k)->wpList P g Q y (d.put o.dst t) r):
 wpList P g Q (o::y) d (w.alloc (.cells (E.enc a).toArray E.tE)):=by
 subst q;let⟨Y,m,F,G,W⟩:=BL E;have C:b<=(w.alloc (.cells (E.enc a).toArray E.tE)).heap.size:=p!;refine mdS _ O s x _ R b E.tE Y E.z E.size E.bytes E.und m F G W E.zs E.pos v l.length (l.flatMap E.enc) D (H.below<|(P! _ _).alloc O? _) (B? w.heap.size 0) 1 c (E.enc a) M (by rw[E.len,mbV]) ?_ (E.one a) ?_ N C ?_
 .intro j u hu;exact mdi
 .have:=mcg (l.length+1) A;simp only[maxLen];omega
 .intro t r L n _ z;refine h t r ?_ ?_<|z.imp id λe=>⟨_,e,N!⟩
  .unfold bq;rw[ϣ,X!];simpa using L
  .refine(((Only.refl _ w).alloc (.cells (E.enc a).toArray E.tE)).and (T:=λk=>v.ownBlock=C! k) ⟨n.os,n.tape,n.output,n.size,λk I S=>n.block k I λe=>S e.symm⟩ λi m=>.inl m)
theorem N8{d:Array Oper}{u:List Oper}{o:Oper}{e:Act}{w:D!}{Q:Exit->Act->D!->Prop}(g:o.guard=L?)(s x:Operand)
 (j:o.op=.call {callee:=.builtin .append,args:= #[s,x],argTypes:= #[192,192]})
 (b:Nat)(f:b<=w.heap.size)(v:I?)(l:List nO)(k:bg)(i:Option Addr)(n:Nat)(c:Nat)(q:bq t6 w b v l)(z:e.eval s=v)(B:Nat)(E:e.eval x=J! (C!<|B? B 0) 1 c)(m:B=w.heap.size)
 (y:(l.length+1)*56<=140737488355328)
 (h:∀t r,bq t6 r b t (l++[(k,i,n)])->Only (λk=>v.ownBlock=C! k) w r->(t.ownBlock=v.ownBlock\/∃k,t.ownBlock=C! k/\w.heap.size<=k)->wpList E? d Q u (e.put o.dst t) r):
 wpList E? d Q (o::u) e (w.alloc (.cells #[A! k.code,A! k.id,J! i k.opts.length n,D? k.data] 220)):=
 N7 t6 g s x j b f v l (k,i,n) c q z B E m y I! h
theorem Ll{P:Program}{n s:Type}{E:Elem P n}{F:Elem P s}(c:E.tE≠F.tE){w:D!}{b r:Nat}{v i:I?}{l:List n}{m:List s}(h:bq E w b v l)(d:bq F w r i m):∀k,v.ownBlock=C! k->i.ownBlock=C! k->False:=by
 intro k t o;rcases h.2 with⟨rfl,_⟩|⟨g,f,j,rfl,_,u,_⟩
 .cases t
 rcases d.2 with⟨rfl,_⟩|⟨z,y,q,rfl,_,e,_⟩
 .cases o
 cases t;cases o
 rw[u]at e;simp only[bbD,Obj.cells.injEq]at e;exact c e.2.1
theorem t7:dS.tE≠t6.tE:=I!
theorem kT.cellOf{w:D!}{t:Nat}{a:Option Addr}{n c:Nat}{l:List Int}(h:kT w t (J! a n c) l)(k:Nat)(d:k<l.length):∃g,a=C! (B? g 0)/\t<=g/\w.cell? (B? g k)=N? (l[k])/\n=l.length/\n<=c/\c<=maxLen:=by
 rcases h.2 with⟨o,b⟩|⟨g,y,i,o,s,r,m,u,v,f⟩
 .omega
 .cases o;refine⟨g,rfl,s,?_,rfl,m,u⟩
  have e:i[k]? =(l.map<|Value.int .i64)[k]? :=by
   rw[<-f,bat,G? B!];simp
  simp[World.cell?,r,e,d]
theorem acJ(p t q:Nat)(o:I?)(s:cu)(e i:Int)(w:D!)(h:bJ w p t o s)(c:kC w t)(l:dm w i)(r:(bN s.state e).2.2≠0):
 G! E? 165 #[P? p,A! e,P? q] w (S? w (.tuple xaC)):=by
 have d:=Zf p t o s e i w h c l r;go_in;go_wp2_with fail;refine M! d λw1 n=>?_;go_wp2;go_ret2;exact⟨rfl,n⟩
def nF(s:cu)(r:cL)(e:List Int)(k:Nat):cu×List bg:=(e.take k).foldl (FH r) (s,[])
theorem D8(s:cu)(r:cL)(e:List Int)(k:Nat)(h:k<e.length):nF s r e (k+1)=FH r (nF s r e k) e[k]:=by
 unfold nF;rw[u! h,ϙ];rfl
theorem Rt(s:cu)(r:cL)(e:List Int):nF s r e e.length=BV s r e:=by
 unfold nF BV;rw[v!]
theorem N9{s:cu}(h:kU s)(r:cL)(e:List Int)(k:Nat):kU (nF s r e k).1:=JJ h r _ _
theorem Ru(s:cu)(r:cL)(e:List Int)(k:Nat)(t:k<=e.length):(nF s r e k).2.length<=k:=by
 induction k with
 |zero=>simp[nF]
 |succ k o=>
  rw[D8 s r e k t];have:=o B!;unfold FH;rw[X!];cases(nk (kD (nF s r e k).1 e[k]) e[k] r).2<;>simp<;>omega
def jl(w:D!)(b:Nat)(v:I?)(l:List nO):Prop:=bq t6 w b v l/\∀x∈l,bq dS w b (EO x) x.1.opts
def li(w:D!)(b:Nat)(o e:I?)(s t:cu):Prop:=(e=o/\t.os=s.os)\/bq dS w b e t.os
theorem bq.strip{P:Program}{o:Type}{E:Elem P o}{w t:D!}{b p:Nat}{v:I?}{l:List o}(h:bq E w b v l)(n:Only (· =p) w t)(s:p<b):bq E t b v l:=
 h.only n λk i e=>by have:=h.block k i;omega
theorem jl.only{w o:D!}{b p:Nat}{v:I?}{l:List nO}(h:jl w b v l)(e:Only (· =p) w o)(t:p<b):jl o b v l:=
 ⟨h.1.strip e t,λx i=>(h.2 x i).strip e t⟩
theorem li.only{w i:D!}{b p:Nat}{o e:I?}{s t:cu}(h:li w b o e s t)(n:Only (· =p) w i)(r:p<b):li i b o e s t:=h.imp id λh=>h.strip n r
theorem E7{w:D!}{b:Nat}{o d n:I?}{s S r t:cu}(h:li w b o d s S)(l:r.os=S.os)(i:(n=d/\t.os=r.os)\/bq dS w b n t.os):li w b o n s t:=by
 rcases i with⟨rfl,e⟩|i
 .rcases h with⟨rfl,c⟩|h
  .exact .inl ⟨rfl,by rw[e,l,c]⟩
  .exact .inr (by rw[e,l];exact h)
 .exact .inr i
theorem Rv{w i:D!}{b:Nat}{v r:I?}{l:List nO}{x:nO}(h:jl w b v l)(s:bq dS w b (EO x) x.1.opts)(d:bq t6 i b r<|l++[x])(n:Only (λk=>v.ownBlock=C! k) w i):jl i b r<|l++[x]:=by
 refine⟨d,λy t=>?_⟩;rcases ό.1 t with t|t
 .exact(h.2 y t).only n λk o e=>Ll t7 (h.2 y t) h.1 k o e
 .rw[j?]at t;subst t;exact s.only n λk o e=>Ll t7 s h.1 k o e
theorem li.apart{w n:D!}{b r:Nat}{o t v:I?}{s i:cu}{l:List nO}(h:li w b o t s i)(u:bq t6 w r v l)(c:Only (λk=>v.ownBlock=C! k) w n):li n b o t s i:=
 h.imp id λh=>h.only c λk d e=>Ll t7 h u k d e
def yR(e:I?)(l:List nO):Prop:=∀x∈l,∀k,(EO x).ownBlock=C! k->e.ownBlock≠C! k
theorem yR.nil(t:I?):yR t []:=λx e=>absurd e N!
theorem yR.snoc{t:I?}{l:List nO}{x:nO}(h:yR t l)(o:∀k,(EO x).ownBlock=C! k->t.ownBlock≠C! k):yR t<|l++[x]:=by
 intro y e;rcases ό.1 e with e|e
 .exact h y e
 .rw[j?]at e;subst e;exact o
theorem Zo{w:D!}{b:Nat}{o t:I?}{s n:cu}(h:li w b o t s n)(i:∀k,o.ownBlock=C! k->k<w.heap.size):∀k,t.ownBlock=C! k->k<w.heap.size:=by
 intro k e;rcases h with⟨rfl,_⟩|h
 .exact i k e
 .exact h.lt k e
theorem zN{w:D!}{b n:Nat}{s o v:I?}{S i:cu}{l:List nO}(h:yR s l)(d:jl w b v l)(g:n=w.heap.size){u:D!}(t:(o=s/\i.os=S.os)\/bq dS u n o i.os):yR o l:=by
 rcases t with⟨rfl,_⟩|t
 .exact h
 .intro x c k r e;have m:=(d.2 x c).lt k r;have f:=t.block k e;omega
theorem Zp(p t q:Nat)(o po ov:I?)(s:cu)(d an:Int)(r:cL)(w:D!)(h:bJ w p t o s)(F:kU s)(bo:kC w t)(bf:dm w an)(a2:tZ w p q po ov r)(ag:po.ownBlock≠C! q/\ov.ownBlock≠C! q)(Q:(bN s.state d).2.2=0)(bk:∀k,o.ownBlock=C! k->k<w.heap.size):
 G! E? 165 #[P? p,A! d,P? q] w λe W=>∃v l g,e=.returned (.tuple #[v,A! 0])/\jl W w.heap.size v l/\l.map (·.1)=(qj s d r).2.1/\bJ W p t g (qj s d r).1/\(li W w.heap.size o g s (qj s d r).1/\yR g l)/\Only (λk=>k=p\/k=q) w W:=by
 have B:=A? bk;have a5:=VQ p t o s d an w h bo bf Q;have az:=Gf Q;have am:=Zn Q
 have bm:qj s d r=((BV {s with state:=(bN s.state d).1} {r with event:=d} (bN s.state d).2.1).1,(BV {s with state:=(bN s.state d).1} {r with event:=d} (bN s.state d).2.1).2,0):=by
  unfold qj;rw[F! B!]
 rw[bm];dsimp only;have ab:kU {s with state:=(bN s.state d).1}:=⟨az,F.left,F.tries,F.id,F.may⟩;let⟨z,al⟩:=F? ({s with state:=(bN s.state d).1}:cu);have b1:z.os=s.os:=by rw[<-al]
 rw[al]at a5 ab|-;generalize (bN s.state d).2.1=y at a5 am|-;have ch:=h.lt;have c2:=a2.blk.lt;have bl:=a2.qp;let⟨m,j⟩:=F? ({r with event:=d}:cL);rw[j];have av:=A? j;go_in;go_wp2_with fail;apply a5.mono;rintro e w1 ⟨va,rfl,a1,bi,ae⟩;obtain⟨c3,c4,rfl⟩:=kT.form a1;have j:=a2.only ae;have ca:=j.blk.k 4;have cc:=j.blk.frozen 4;have C:=ay w1 q 4<|A! d;have a0:bJ (w1.setCell (B? q 4)<|A! d) p t o z:=C.heap bi λe=>bl e.symm
 have b9:cl (w1.setCell (B? q 4)<|A! d) q po ov {r with event:=d}:=by
  have:=ba4 w1 q 4 _ 246 (A! d) j.blk;exact this
 have a3:tZ (w1.setCell (B? q 4)<|A! d) p q po ov {r with event:=d}:=
  ⟨b9,aD.only j.opts C (λk u e=>ag.1<|by rw[u,e]),aD.only j.os C (λk u e=>ag.2<|by rw[u,e]),j.len,j.qp,j.pop,j.ovp,j.size⟩
 have a8:=kT.only a1 C λk u e=>by have:=kT.block a1 k u;omega
 have H:=(ae.mono<|λk _ h=>Or.inl h).trans<|C.mono<|λk _ h=>Or.inr h;go_wp2_with fail;generalize w1.setCell (B? q 4) (A! d)=L at a0 a3 a8 H|-;rw[av.out]at a3;have a6:=H.size;let⟨n,Z⟩:=F? y.length;have HN:=A? Z;have ar:E!<|BV z m y=nF z m y n:=A? (by rw[<-Z,Rt]);rw[Z]at am|-;go_loopw[10,32] (λbx i wr=>∃(k:Nat) (l:List nO) (g:I?),k<=n/\i=A! k/\jl wr L.heap.size bx l/\E! (l.map (·.1)=(nF z m y k).2)/\bJ wr p t g (nF z m y k).1/\li wr L.heap.size o g s (nF z m y k).1/\yR g l/\Only (· =p) L wr) (λ_ i _=>n-(intOf i).toNat)
 case atStart=>exact⟨0,[],o,S! _,rfl,⟨bq.nil _ _ _,λx a7=>absurd a7 N!⟩,A? rfl,a0,.inl ⟨rfl,b1⟩,yR.nil _,Only.refl _ _⟩
 case round=>
  obtain⟨k,l,g,u,rfl,hpk,Y,N,hos,hps,hOr⟩:=hrel;obtain⟨ao,ap,rfl,c1,c5⟩:=aD.form hpk.1.at;by_cases hlt:k<n
  .have ad:k<y.length:=Δ;obtain⟨a9,rfl,cd,V,cf,c7,c6⟩:=kT.cellOf a8 k ad;have b2:=a0.lt;have b0:a9≠p:=B!;replace V:=hOr.cell (a:=B? a9 k) V b0;have M:=D8 z m y k ad;have ac:=N9 ab m y k;have be:=Ru z m y k B!;have ce:l.length<=k:=by rw[<-g! (f:=(·.1)),Y.out];exact be
   generalize y[k]=R at V M;let⟨S,b8⟩:=F?<|(nF z m y k).1;let⟨ax,aa⟩:=F?<|(nF z m y k).2;have a4:=a3.only hOr;unfold FH at M;rw[b8]at N hos ac M;rw[aa]at M;have Gh:E!<|l.map (·.1)=ax:=A? (by rw[Y.out,aa]);have D4:=A? M;have A:=JI ac R;have c8:=N.k 2;have c9:=N.k 3;have cb:=N.frozen 2;have hkn:k+1<=n:=hlt;have hpb:=b2;by_cases K:R=5
   .subst K;have O:E!<|kD S 5={S with left:=S.tries}:=A?<|rfl;rw[O.out]at A;have I:=N.set 2 (A! S.tries) g {S with left:=S.tries} rfl;have hO3:=ay wr p 2<|A! S.tries;let⟨E,IX⟩:=F? ({S with left:=S.tries}:cu);have JK:=A?<|O.trans IX;have Qx:E!<|E.os=S.os:=A? mek;rw[IX]at A I;have D:=Zo hos λk u=>Z! (B k u)<|Z? H.size hOr.size;have nA:=Gg p t q g po ov E 5 m (wr.setCell (B? p 2)<|A! S.tries) I A (a4.only hO3) λk u=>Z! (D k u) hO3.size;unfold Cq cm at nA;let⟨X,hX⟩:=F?<|nk E 5 m;exact nbu
   by_cases J:R=6
   .subst J;have O:E!<|kD S 6={S with left:=0}:=A?<|rfl;rw[O.out]at A;have I:=N.set 2 (A! 0) g {S with left:=0} rfl;have hO3:=ay wr p 2<|A! 0;let⟨E,IX⟩:=F? ({S with left:=0}:cu);have JK:=A?<|O.trans IX;have Qx:E!<|E.os=S.os:=A? mek;rw[IX]at A I;have D:=Zo hos λk u=>Z! (B k u)<|Z? H.size hOr.size;have nA:=Gg p t q g po ov E 6 m (wr.setCell (B? p 2)<|A! 0) I A (a4.only hO3) λk u=>Z! (D k u) hO3.size;unfold Cq cm at nA;let⟨X,hX⟩:=F?<|nk E 6 m;exact nbu
   .have ci:=Q?.2 K;have cj:=Q?.2 J;have O:E!<|kD S R=S:=A? (by unfold kD;rw[F! K,F! J]);rw[O.out]at A;have I:=N;have hO3:=Only.refl (· =p) wr;let⟨E,IX⟩:=F? (S:cu);have JK:=A?<|O.trans IX;have Qx:E!<|E.os=S.os:=A? mek;rw[IX]at A I;have D:=Zo hos λk u=>Z! (B k u)<|Z? H.size hOr.size;have nA:=Gg p t q g po ov E R m wr I A (a4.only hO3) λk u=>Z! (D k u) hO3.size;unfold Cq cm at nA;let⟨X,hX⟩:=F?<|nk E R m;rw[hX]at nA;have HX:=A? hX;obtain⟨S3,op⟩:=X;dsimp only at nA;let⟨b,hb⟩:=F? op.isSome;rw[hb]at nA;cases b with
    |false=>
     exact nc2
    |true=>
     obtain⟨bv,rfl⟩:∃x,op=C! x:=by cases op with|none=>cases hb|some x=>exact⟨x,rfl⟩
     have hB3:∀(w3:D!) (ob:Obj),K! w3<|w3.alloc ob:=λw3 ob=>ak U? ob;have bd:(l.length+1)*56<=140737488355328:=B!
     go_wp2_with(first
      |(go_at_call 210;apply nA.mono;rintro e w3 ⟨kp,v,o3,rfl,hk',uH,hn4,Qy,hO4,acK⟩;obtain⟨va,vc,rfl,wJ,xI⟩:=aD.form uH.at;have bc:=hk' bv rfl;subst bc)
      |(at_builtin;go_loud (apply N8 rfl _ _ rfl L.heap.size (Z? (hOr.trans hO4).size (hB3 _ _).size) (.slice ao l.length ap) l kp va vc _ (((hpk.only hO4 hpb).1).below (hB3 _ _)) rfl _ rfl N! bd);intro ck cn br G c0))
     have MU:=hOr.trans hO4;have Lm:=(hpk.only hO4 hpb).only (Only.aP<|hB3 w3 (.cells #[A! kp.code,A! kp.id,J! va kp.opts.length vc,D? kp.data] 220)) hpb;have Ob:=(E7 (hos.only hO4 hpb) Qx<|Qy.imp id λh=>h.base hOr.size).only (Only.aP<|hB3 w3 (.cells #[A! kp.code,A! kp.id,J! va kp.opts.length vc,D? kp.data] 220)) hpb;have bs:bq dS _ L.heap.size (EO (kp,va,vc)) kp.opts:=(uH.base hOr.size).below<|hB3 w3 (.cells #[A! kp.code,A! kp.id,J! va kp.opts.length vc,D? kp.data] 220);have bj:=G.heap (hn4.below<|hB3 w3 _) λe=>by have:=hpk.1.block p e;omega
     have Rw:=(zN hps (hpk.only hO3 hpb) rfl Qy).snoc (x:=(kp,va,vc)) acK;have bz:=Rv Lm bs br G;have b3:=Ob.apart Lm.1 G;have b6:=(MU.alloc _).and G λi ba=>.inr<|hpk.1.block i ba;go_roundw
     case rel=>
      refine⟨k+1,l++[(kp,va,vc)],o3,hkn,Γ,bz,A? ?_,?_,?_,Rw,b6⟩
      .rw[D4.out,JK.out,HX.out,ϻ,Gh.out];rfl
      .rw[D4.out,JK.out,HX.out];exact bj
      .rw[D4.out,JK.out,HX.out];exact b3
     case measure=>simp[intOf];omega
  .obtain rfl:k=n:=B!;have b4:jl wr w.heap.size (J! ao l.length ap) l:=⟨hpk.1.base a6,λx a7=>(hpk.2 x a7).base a6⟩;have b5:li wr w.heap.size o g s (nF z m y k).1:=hos.imp id λh=>h.base a6;have b7:=H.trans<|hOr.mono λ_ _ h=>.inl h;go_wp2;go_ret2;rw[ar.out];exact⟨_,l,g,rfl,b4,Y.out,N,⟨b5,hps⟩,b7⟩
structure xJ(w:D!)(p t:Nat)(o:I?)(s:cu):Prop where
 blk:bJ w p t o s
 tab:kC w t
 os:aI w o s.os
 tp:t≠p
 op:∀k,o.ownBlock=C! k->k≠p
 good:kU s
 mlp:p≠0
theorem xJ.only{S:Nat->Prop}{w i:D!}{p t:Nat}{o:I?}{s:cu}(h:xJ w p t o s)(e:Only S w i)(r:¬S p)(d:¬S t)(n:∀k,o.ownBlock=C! k->¬S k):xJ i p t o s:=
 ⟨h.blk|>λb=>e.heap b r,λv s c l=>e.cell (h.tab v s c l) d,aD.only h.os e n,h.tp,h.op,h.good,h.mlp⟩
theorem xJ.below{w e:D!}{p t:Nat}{o:I?}{s:cu}(h:xJ w p t o s)(i:K! w e):xJ e p t o s:=
 h.only (S:=λ_=>False) (Only.aP i) id id λ_ _ h=>h
theorem D9{S:Nat->Prop}{w t:D!}{e:Int}(h:dm w e)(i:Only S w t)(o:¬S 0):dm t e:=i.cell h o
theorem Uv(p t q:Nat)(o f m:I?)(s:cu)(i c:Int)(r:cL)(w:D!)(h:bJ w p t o s)(j:kU s)(b:kC w t)(y:dm w c)(A:tZ w p q f m r)(E:f.ownBlock≠C! q/\m.ownBlock≠C! q)(z:∀k,o.ownBlock=C! k->k<w.heap.size):
 G! E? 165 #[P? p,A! i,P? q] w λe n=>∃v l u,e=.returned (.tuple #[v,A! (qj s i r).2.2])/\jl n w.heap.size v l/\l.map (·.1)=(qj s i r).2.1/\bJ n p t u (qj s i r).1/\(li n w.heap.size o u s (qj s i r).1/\yR u l)/\Only (λk=>k=p\/k=q) w n:=by
 by_cases d:(bN s.state i).2.2=0
 .have e:(qj s i r).2.2=0:=by unfold qj;rw[F! B!]
  rw[e];exact Zp p t q o f m s i c r w h j b y A E d z
 .have e:qj s i r=(s,[],1501):=by unfold qj;rw[G? d]
  rw[e];refine M! (acJ p t q o s i c w h b y d) λn g=>?_;exact⟨Q!,[],o,rfl,⟨bq.nil _ _ _,λx O=>absurd O N!⟩,rfl,h.below g,⟨.inl ⟨rfl,rfl⟩,yR.nil _⟩,Only.aP g⟩
theorem Rx(w:D!):cl (w.alloc (.cells xaj 246)) w.heap.size Q! Q! A9:=c! _ _
def mW(p t:Nat)(o:I?)(s:cu)(X:cu×List bg×Int)(r:Int)(w:D!)(e:Ending)(i:D!):Prop:=
 ∃v l n,e=.returned (.tuple #[v,A! X.2.2])/\jl i w.heap.size v l/\l.map (·.1)=X.2.1/\xJ i p t n X.1/\(li i w.heap.size o n s X.1/\yR n l)/\Only (· =p) w i/\dm i r
theorem mW.stay{p t:Nat}{o:I?}{s:cu}{e n:Int}{w r:D!}(h:xJ w p t o s)(l:dm w n)(i:K! w r):mW p t o s (s,[],e) n w (.returned (.tuple #[Q!,A! e])) r:=
 ⟨Q!,[],o,rfl,⟨bq.nil _ _ _,λx d=>absurd d N!⟩,rfl,h.below i,⟨.inl ⟨rfl,rfl⟩,yR.nil _⟩,Only.aP i,l.below i⟩
theorem Oc{p t q:Nat}{o d:I?}{s S X:cu}{g:Int}{w w1 n:D!}{v:I?}{l:List nO}(h:xJ w p t o s)(O:dm w g)(c:Only (· =p) w w1)(D:w.heap.size<=q)(I:bJ n p t d X)(z:kU X)(r:li n w1.heap.size o d S X)(j:S.os=s.os)(N:Only (λk=>k=p\/k=q) w1 n)(f:jl n w1.heap.size v l):
 jl n w.heap.size v l/\xJ n p t d X/\li n w.heap.size o d s X/\Only (· =p) w n/\dm n g:=by
 have u:=c.and N λi E=>E.imp id λe=>B!
 have m:li n w.heap.size o d s X:=by
  rcases r with⟨y,b⟩|r
  .exact .inl ⟨y,b.trans j⟩
  .exact .inr<|r.base c.size
 refine⟨⟨f.1.base c.size,λx L=>(f.2 x L).base c.size⟩,⟨I,λv s H R=>u.cell (h.tab v s H R) h.tp,?_,h.tp,?_,z,h.mlp⟩,m,u,D9 O u λe=>h.mlp e.symm⟩
 .rcases m with⟨rfl,e⟩|r
  .rw[e];exact aD.only h.os u h.op
  .exact r.at
 .rcases m with⟨rfl,e⟩|r
  .exact h.op
  .intro k A e;have:=r.block k A;have:=h.blk.lt;omega
theorem Ln(p t:Nat)(o:I?)(s:cu)(d n f:Int)(w:D!)(h:xJ w p t o s)(j:dm w f)(y:(d=0/\n=0)\/(d=1/\n=1)\/(d=2/\n=2)\/(d=3/\n=3)\/(d=4/\n=5/\s.left=0)\/(d=4/\n=4/\s.left≠0)):
 G! E? 120 #[P? p,A! d] w (mW p t o s (qj s n A9) f w):=by
 have m:K! w<|w.alloc (.cells xaj 246):=R!;have F:=h.blk.lt;have Uw:=Uv p t w.heap.size o Q! Q! s n f A9 _ (h.blk.below m) h.good (h.below m).tab (j.below m) ⟨Rx w,aD.nil _ _,aD.nil _ _,I!,B!,λk hk=>o!,λk hk=>o!,I!⟩ ⟨(λe=>ϱ),(λe=>ϱ)⟩<|λk hk=>Z! (h.os.lt k hk) m.size;have z:=h.blk.k 2;have g:=A?<|yQ h.good n A9;generalize s.left=G at z y;generalize qj s n A9=X at Uw g|-
 have E:∀(e:Ending) (u:D!),(∃v l o',e=.returned (.tuple #[v,A! X.2.2])/\jl u (w.alloc (.cells xaj 246)).heap.size v l/\l.map (·.1)=X.2.1/\bJ u p t o' X.1/\(li u (w.alloc (.cells xaj 246)).heap.size o o' s X.1/\yR o' l)/\Only (λk=>k=p\/k=w.heap.size) (w.alloc (.cells xaj 246)) u)->mW p t o s X f w e u:=by
  rintro e u ⟨v,l,o',rfl,A,I,N,⟨hk,R⟩,S⟩;let⟨H,L,D,C,M⟩:=Oc h j (Only.aP m) O? N g hk rfl S A;exact⟨v,l,o',rfl,H,I,L,⟨D,R⟩,C,M⟩
 have HF:=A? E;rcases y with⟨rfl,rfl⟩|⟨rfl,rfl⟩|⟨rfl,rfl⟩|⟨rfl,rfl⟩|⟨rfl,rfl,rfl⟩|⟨rfl,rfl,O⟩
 case inr.inr.inr.inr.inr=>
  have W:=Q?.2 O;exact nc0
 all_goals
  exact nc0
theorem Zq(p:Nat)(e:Int)(w:D!)(t:¬(e=0\/e=1\/e=2\/e=3)/\e≠4):
 G! E? 120 #[P? p,A! e] w (T! w (.tuple #[Q!,A! 1500])):=by
 have o:(e==0)=false:=Q?.2 B!;have i:(e==1)=false:=Q?.2 B!;have n:(e==2)=false:=Q?.2 B!;have s:(e==3)=false:=Q?.2 B!;have r:(e==4)=false:=Q?.2 B!;exact ma6
theorem Ux(p t:Nat)(o:I?)(s:cu)(i n:Int)(w:D!)(h:xJ w p t o s)(r:dm w n):
 G! E? 120 #[P? p,A! i] w (mW p t o s (yo s i) n w):=by
 unfold yo;by_cases l:i=0\/i=1\/i=2\/i=3
 .rw[G? l];exact Ln p t o s i i n w h r B!
 rw[F! l];by_cases d:i=4
 .rw[G? d];by_cases c:s.left=0
  .rw[G? c];exact Ln p t o s i 5 n w h r B!
  .rw[F! c];exact Ln p t o s i 4 n w h r B!
 .rw[F! d];refine d! (Zq p i w ⟨l,d⟩) ?_;exact mW.stay h r U?
section
def vE(b:Option Nat):Value:=match b with|some b=>ptr b|none=>.pointer L?
def Ct(w:D!)(G:Nat->Tag)(t:Tag)(b:Nat)(o e:I?)(l:List UInt8):Prop:=
 (l=[]/\o=.pointer L?/\e=Q!)\/(o=.pointer (C!<|B? b 8)/\Own w 0 e l/\∀k,e.ownBlock=C! k->G k=t)
structure pV where
 n:Nat
 tb:Nat
 o:I?
 pf:Option Nat
 oa:I?
 ob:I?
 tm:Option Nat
def bS(x:pV)(l:aM):Array Value:=
 #[ptr x.n,vE x.pf,A! l.id,A! l.phase,H? l.dials,A! l.num,A! l.drop,D? (bytesOf l.buffer),x.oa,x.ob,A! l.at_,A! l.over,
   A! l.answer.code,A! l.answer.id,D? l.answer.value,D? l.answer.name,A! l.answers,vE x.tm,H? l.ready]
def acL(w:D!)(G:Nat->Tag)(t:Tag)(b:Option Nat)(m:Option bM):Prop:=
 match b,m with
 |none,L?=>True
 |some b,C! m=>qQ w G t b m
 |_,_=>False
def Lp(w:D!)(G:Nat->Tag)(t:Tag)(b:Option Nat)(m:Option bg):Prop:=
 match b,m with
 |none,L?=>True
 |some b,C! m=>∃v,aO w b 220 (cm m v)/\G b=t/\pd dS G t w v m.opts
 |_,_=>False
structure cM(w:D!)(G:Nat->Tag)(t:Tag)(b:Nat)(x:pV)(l:aM):Prop where
 blk:aO w b 107<|bS x l
 tag:G b=t
 side:xJ w x.n x.tb x.o l.neg
 gn:G x.n=t++[0]
 lt:x.tb<w.heap.size
 gt:G x.tb=t++[2]
 go:∀k,x.o.ownBlock=C! k->G k=t++[1]
 pf:acL w G (t++[3]) x.pf l.proof
 out:Ct w G (t++[4]) b x.oa x.ob l.out
 tm:Lp w G (t++[5]) x.tm l.term
def cI(w:D!)(G:Nat->Tag)(t:Tag)(b:Nat)(l:aM):Prop:=∃x,cM w G t b x l
structure eY where
 q:Nat
 j:Nat
 k:Nat
 s:Option Nat
 lm:Nat
 pm:Nat
 vm:Nat
 xU:I?
 got:I?
 f:Int->Nat
def V6(c:cP):List Value:=
 [A! c.aV,A! c.links,A! c.least,A! c.rate,A! c.cv,A! c.high,A! c.low,A! c.hold,A! c.base,A! c.cap,A! c.restart,A! c.tries,H? c.short,
  D? c.bR,D? c.bT,D? c.expect,A! c.cD,A! c.bP]
def gE(x:eY)(m:aF):Array Value:=
 #[A! m.c.aV,A! m.c.links,A! m.c.least,A! m.c.rate,A! m.c.cv,A! m.c.high,A! m.c.low,A! m.c.hold,A! m.c.base,A! m.c.cap,A! m.c.restart,A! m.c.tries,H? m.c.short,
   D? m.c.bR,D? m.c.bT,D? m.c.expect,A! m.c.cD,A! m.c.bP,
   A! m.side,H? m.aX,ptr x.q,ptr x.j,ptr x.k,A! m.jF,A! m.load,A! m.now,A! m.random,vE x.s,A! m.last,.map<|C! x.lm,.map<|C! x.pm,.map<|C! x.vm,x.xU,x.got,
   A! m.vo,A! m.fails,A! m.tY,A! m.steady,A! m.way]
structure cg(w:D!)(G:Nat->Tag)(n:Int)(b:Nat)(x:eY)(m:aF):Prop where
 blk:aO w b 94<|gE x m
 tag:G b=[n]
 q:eC w G [n,1] x.q m.queue
 j:yJ w G [n,2] x.j m.join
 k:F2 w G [n,3] x.k m.cC
 tl:G x.lm=[n,4]
 tp:G x.pm=[n,5]
 tv:G x.vm=[n,6]
 lm:bp w x.lm<|dY (λk _=>ptr<|x.f k) m.links
 pm:bp w x.pm<|dY (λ_ v=>A! v) m.phases
 vm:bp w x.vm<|dY (λ_ v=>.bool v) m.proved
 xU:oy Ci G [n,7] w x.xU m.changes
 got:oy fB G [n,8] w x.got m.got
 link:∀k l,(k,l)∈m.links->cI w G [n,9,k] (x.f k) l
variable{T:Tag->Prop}{G G1:Nat->Tag}{w w1:D!}{t:Tag}{b:Nat}
theorem Zr{v:I?}{l:List UInt8}(h:Own w 0 v l)(i:∀k,v.ownBlock=C! k->G k=t)(n:Step T G w G1 w1)(m:¬T t):Own w1 0 v l/\∀k,v.ownBlock=C! k->G1 k=t:=by
 rcases h with⟨e,⟨rfl,c⟩|⟨g,s,d,rfl,u,o,r⟩⟩
 .exact⟨⟨e,.inl ⟨rfl,c⟩⟩,λk hk=>o!⟩
 .refine⟨⟨e,.inr ⟨g,s,d,rfl,u,n.heap o<|by rw[i g rfl];exact m,r⟩⟩,λk hk=>?_⟩;cases hk
  exact(n.old _ (i!.1 o).1).trans<|i g rfl
theorem Ct.step{e o:I?}{l:List UInt8}(h:Ct w G t b e o l)(d:Step T G w G1 w1)(r:¬T t):Ct w1 G1 t b e o l:=by
 rcases h with h|⟨i,n,s⟩
 .exact .inl h
 .exact .inr ⟨i,Zr n s d r⟩
theorem acL.step{x:Option Nat}{m:Option bM}(h:acL w G t x m)(o:Step T G w G1 w1)(e:¬T t):acL w1 G1 t x m:=by
 cases x<;>cases m<;>first|exact h|exact qQ.step h o e
theorem Lp.step{x:Option Nat}{m:Option bg}(h:Lp w G t x m)(e:Step T G w G1 w1)(n:¬T t):Lp w1 G1 t x m:=by
 cases x<;>cases m<;>first|exact h|skip
 obtain⟨v,o,i,s⟩:=h;exact⟨v,o.step e<|by rw[i];exact n,(e.old _ o.lt).trans i,s.step e n⟩
theorem cM.step{x:pV}{l:aM}(h:cM w G t b x l)(hs:Step T G w G1 w1)(hn:∀u,aq t u->¬T u):cM w1 G1 t b x l:=by
 have o:=hs.keep _ h.side.blk.lt (by rw[h.gn];exact hn _<|aq.app _ _);have e2:=hs.keep _ h.lt (by rw[h.gt];exact hn _<|aq.app _ _)
 refine⟨h.blk.step hs bck,(hs.old _ h.blk.lt).trans h.tag,?_,(hs.old _ h.side.blk.lt).trans h.gn,Z! h.lt hs.size,(hs.old _ h.lt).trans h.gt,
  λk e=>(hs.old _ (aD.lt h.side.os k e)).trans (h.go k e),h.pf.step hs (hn _ (aq.app _ _)),h.out.step hs (hn _ (aq.app _ _)),h.tm.step hs (hn _ (aq.app _ _))⟩
 exact⟨o.trans h.side.blk,λv s hv hs=>(World.cell?_of_block (by exact e2)).trans<|h.side.tab v s hv hs,aD.only h.side.os hs.only (λk e=>by rw[h.go k e];exact hn _<|aq.app _ _),h.side.tp,h.side.op,h.side.good,h.side.mlp⟩
theorem cI.step{l:aM}(h:cI w G t b l)(o:Step T G w G1 w1)(e:∀u,aq t u->¬T u):cI w1 G1 t b l:=h.imp λ_ h=>h.step o e
theorem cg.step{n:Int}{x:eY}{m:aF}(h:cg w G n b x m)(d:Step T G w G1 w1)(y:∀u,aq [n] u->¬T u):cg w1 G1 n b x m:=by
 have f:∀a,¬T (n::a):=λa=>y _<|aq.app [n] a;have g:∀a u,aq (n::a) u->¬T u:=λa u f=>y u<|(aq.app [n] a).trans f
 exact⟨h.blk.step d (by rw[h.tag];exact f _),(d.old _ h.blk.lt).trans h.tag,h.q.step d (g _),h.j.step d (g _),h.k.step d (g _),(d.old _ h.lm.lt).trans h.tl,(d.old _ h.pm.lt).trans h.tp,(d.old _ h.vm.lt).trans h.tv,
  h.lm.step d (by rw[h.tl];exact f _),h.pm.step d (by rw[h.tp];exact f _),h.vm.step d (by rw[h.tv];exact f _),h.xU.step d (f _),h.got.step d (f _),λk l j=>(h.link k l j).step d (g _)⟩
end
