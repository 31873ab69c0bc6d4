/- Walks and plain laws. -/
import Derived.Test.YtncddkcponjlpaaGreatDoorK24
import Derived.Test.YtncddkcponjlpaaGreatDoorK26
set_option linter.unusedVariables false
set_option linter.unusedSimpArgs false
set_option maxHeartbeats 0
set_option maxRecDepth 99999
namespace Go.Proofs.YtncddkcponjlpaaGreatDoor
open Go.RowKit Go.Proofs.Tryz
open Go renaming World→D!,Value→I?,Calls→G!,IntKind→ncy
open Go.RowKit renaming Hid→E!
open Decidable renaming decide→K?
open Option renaming some→C!,none→L?
open Bool renaming true→C?,false→H!
open Go.Proofs.Tryz renaming prog→E?
variable{P:Prop}
variable{w w1:D!}{G G1:Nat->Tag}{t:Tag}{b:Nat}{x x':pV}{l l':aM}{ml:Int}
structure OY(w:D!)(G:Nat->Tag)(t:Tag)(v:I?)(cs:List cT):Prop where
 seq:aD kL w v cs
 nv:∀k,v.ownBlock=C! k->¬aq t (G k)
 sz:∀c∈cs,uJ c
theorem OY.step{v:I?}{e:List cT}(h:OY w G t v e)(hs:Step (aq t) G w G1 w1):OY w1 G1 t v e:=
 ⟨aD.only h.seq hs.only h.nv,λk hk=>mdt,h.sz⟩
theorem OY.cells{a:Option Addr}{n c:Nat}{e:List cT}(h:OY w G t (J! a n c) e)(j:Nat)(i:j<e.length):
 ∃g o,a=C! (B? g o)/\g<w.heap.size/\n=e.length/\n<=c/\c<=maxLen/\w.cell? (B? g<|o+j*4)=N? (e[j].code)/\w.cell? (B? g<|o+j*4+1)=N? (e[j].id)/\w.cell? (B? g<|o+j*4+2)=C! (D? e[j].value)/\w.cell? (B? g<|o+j*4+3)=C! (D? e[j].name):=by
 rcases h.seq with⟨r,_⟩|⟨g,o,y,f,d,u,m,s⟩
 .subst r;cases i
 .cases f;refine⟨g,o,rfl,m,rfl,d,u,?_,?_,?_,?_⟩
  .have:=s j i 0 I!;simpa[kL,aK]using this
  .have:=s j i 1 I!;simpa[kL,aK]using this
  .have:=s j i 2 I!;simpa[kL,aK]using this
  .have:=s j i 3 I!;simpa[kL,aK]using this
theorem aax(l:aM)(e:List cT)(j:Nat)(o:j<e.length):lS l (e.take<|j+1)=kJ (lS l<|e.take j) e[j]:=by
 unfold lS;rw[u! o,ϙ];rfl
theorem OZ:∀(e:List cT) (l:aM),(lS l e).out.length<=l.out.length+4110*e.length
 |[],l=>Y? _
 |c::e,l=>by
  have o:=Gz l c;have i:=OZ e<|kJ l c;show(lS (kJ l c) e).out.length<=_;exact baN
theorem O0{c:cT}(i:uJ c):(cx c).1.length<=1024:=by
 unfold uJ at i;unfold cx;split
 .exact S! _
 .split
  .exact S! _
  .rename_i n s;have e:c.value.data.toList.length=c.value.size:=rfl;have o:c.name.data.toList.length=c.name.size:=rfl;dsimp only;simp only[X!,V!,l?,o];split
   .simp only[V!,e];omega
   .simp only[l?];omega
theorem CR{v:I?}{r:List cT}(h:cI w G t b l)(Q:OY w G t v r)(bd:t≠[])(M:l.out.length+4110*r.length<=1099511627776):
 G! E? 170 #[ptr b,v] w (ud t b (lS l r) G w (.tuple #[])):=by
 have bc:=aD.le Q.seq;obtain⟨a,c1,rfl,b9,_⟩:=aD.form Q.seq;have ap:=A?<|λ(a8:ByteArray) (ba:a8.size<=maxLen) (w1:D!) (G1:Nat->Tag) (ae:aM) (bs:pV) (H:cM w1 G1 t b bs ae) (M:ae.out.length<=1099511627776)=>zU 49699 a8 H M ba;have al:=A?<|λ(k:cT) (w1:D!) (bf:uJ k)=>qA k w1<|by unfold uJ at bf;omega
 let⟨n,ab⟩:=F? r.length;have HN:=A? ab;rw[ab]at bc b9 M|-;have ao:=A? M;have ar:=A? bd;unfold ptr;go_wp2;go_loopw[10] (λi wr=>∃j:Nat,j<=n/\i=A! j/\E! (∃a3,cI wr a3 t b (lS l<|r.take j)/\Step (aq t) G w a3 wr)) (λi _=>n-(intOf i).toNat)
 case atStart=>exact⟨0,S! _,rfl,A? ⟨G,h,Step.refl _ _ _⟩⟩
 case round=>
  obtain⟨j,c5,rfl,B⟩:=hrel;by_cases hlt:j<n
  .have J:j<r.length:=Δ;let⟨G1,m,F⟩:=B.out;have ac:=Q.step F;have a1:=ac.sz _<|l! J;obtain⟨c3,c7,rfl,c4,-,-,-,az,b0,b1,b2⟩:=ac.cells j J;have C:j+1<=n:=hlt
   have aa:(lS l<|r.take j).out.length<=1099511627776:=by
    have H:=OZ (r.take j) l;have q:=ao.out;rw[w!,HN.out]at H;have:min j n=j:=B!;rw[this]at H;omega
   have f:=A?<|aax l r j J;generalize lS l (r.take j)=L at m aa f;generalize r[j]=k at az b0 b1 b2 a1 f;have b8:K! wr<|wr.alloc (.cells #[A! k.code,A! k.id,D? k.value,D? k.name] 104):=R!;have a4:E!<|aO (wr.alloc (.cells #[A! k.code,A! k.id,D? k.value,D? k.name] 104)) wr.heap.size 104 #[A! k.code,A! k.id,D? k.value,D? k.name]:=A?<|aO.new _ _ _;have am:E!<|grow G1 wr.heap.size free wr.heap.size=free:=A?<|fE G1 free O?;have X:=A?<|al k (wr.alloc (.cells #[A! k.code,A! k.id,D? k.value,D? k.name] 104)) a1;have a7:=O0 a1;have z:E!<|kJ L k=if k.code=2 then{(if(cx k).2=0 then jO L 49699 (cx k).1 else L)with answer:=k}else(if(cx k).2=0 then jO L 49699 (cx k).1 else L):=A? rfl
   generalize cx k=ax at X a7 z;obtain⟨T,b3⟩:=ax;unfold kz at X;have N:=A?<|cI.below m b8;have HLn:=A? a7;have bk:=A? aa
   have ag:E! (∀(o:D!) (g:Nat->Tag) (S:aM),cI o g t b S->Step (aq t) G w g o->∃u,cI ((((o.setCell (B? b 12) (A! k.code)).setCell (B? b 13) (A! k.id)).setCell (B? b 14) (D? k.value)).setCell (B? b 15) (D? k.name)) u t b {S with answer:=k}/\Step (aq t) G w u ((((o.setCell (B? b 12) (A! k.code)).setCell (B? b 13) (A! k.id)).setCell (B? b 14) (D? k.value)).setCell (B? b 15) (D? k.name))):=A? (λo g S ⟨a2,e⟩ W=>by
    let⟨bi,bj⟩:=e.own (l':={S with answer:=k}) (w1:=((((o.setCell (B? b 12)<|A! k.code).setCell (B? b 13)<|A! k.id).setCell (B? b 14)<|D? k.value).setCell (B? b 15)<|D? k.name)) (((((Only.refl (λi=>i=b) o).set (.inl rfl) _).set (.inl rfl) _).set (.inl rfl) _).set (.inl rfl) _) ⟨rfl,rfl,rfl,rfl⟩<|(((e.blk.set 12 _ rfl).set 13 _ rfl).set 14 _ rfl).set 15 _ rfl;exact⟨_,⟨a2,bi⟩,W.trans bj⟩)
   go_wp2_with fail;refine M! X λd a9=>?_;let⟨q,ad⟩:=cI.below N.1 a9;have V:=A?<|(F.trans N.2).trans ad;have y:=A?<|aO.below a4 a9;have an:=A?<|(ad.old _ a4.lt).trans am;by_cases D:b3=0
   .subst D;obtain⟨c8,be⟩:=q;have av:=A?<|ap (bytesOf T) mdo _ _ _ _ be bk;go_wp2_with fail;apply av.mono;rintro c2 o ⟨rfl,g,e,W⟩;have Y:=A? e;have a6:=A?<|V.trans W;have R:E!<|aO o wr.heap.size 104 #[A! k.code,A! k.id,D? k.value,D? k.name]:=A?<|W.heap y<|by rw[an.out];exact aJ ar
    have E:=R.cell 0;have A:=R.cell 1;have O:=R.cell 2;have I:=R.cell 3;replace E:J? o wr.heap.size 0 k.code:=E;replace A:J? o wr.heap.size 1 k.id:=A;replace O:L! o wr.heap.size 2<|D? k.value:=O;replace I:L! o wr.heap.size 3<|D? k.name:=I;by_cases s:k.code=2
    .have Z:(k.code==2)=true:=by simp[s]
     let⟨u,K,a0⟩:=ag _ _ _ Y a6;let⟨a2,e⟩:=Y.out;obtain⟨bl,bv⟩:∃v,L! o b 12 v:=⟨_,e.blk.cell 12⟩;obtain⟨bm,bx⟩:∃v,L! o b 13 v:=⟨_,e.blk.cell 13⟩;obtain⟨bo,bz⟩:∃v,L! o b 14 v:=⟨_,e.blk.cell 14⟩;obtain⟨br,c0⟩:∃v,L! o b 15 v:=⟨_,e.blk.cell 15⟩;have b4:=e.blk.frozen 12;have b5:=e.blk.frozen 13;have b6:=e.blk.frozen 14;have b7:=e.blk.frozen 15;have c:=A? s;clear e s;go_wp2;go_roundw
     case rel=>exact⟨j+1,C,W!,A? ⟨u,(by rw[f.out,z.out,G? c.out];first|rw[G? rfl]|rw[G? trivial];exact K),a0⟩⟩
     case measure=>simp[intOf];omega
    .have Z:=Q?.2 s;have c:=A? s;clear s;go_wp2;go_roundw
     case rel=>exact⟨j+1,C,W!,A? ⟨g,(by rw[f.out,z.out,F! c.out];first|rw[G? rfl]|rw[G? trivial];exact Y),a6⟩⟩
     case measure=>simp[intOf];omega
   .have c6:=Q?.2 D;have a5:=A? D;clear D;have E:=y.cell 0;have A:=y.cell 1;have O:=y.cell 2;have I:=y.cell 3;replace E:J? d wr.heap.size 0 k.code:=E;replace A:J? d wr.heap.size 1 k.id:=A;replace O:L! d wr.heap.size 2<|D? k.value:=O;replace I:L! d wr.heap.size 3<|D? k.name:=I;by_cases s:k.code=2
    .have Z:(k.code==2)=true:=by simp[s]
     let⟨u,K,a0⟩:=ag _ _ _ q V;obtain⟨a2,e⟩:=q;obtain⟨bl,bv⟩:∃v,L! d b 12 v:=⟨_,e.blk.cell 12⟩;obtain⟨bm,bx⟩:∃v,L! d b 13 v:=⟨_,e.blk.cell 13⟩;obtain⟨bo,bz⟩:∃v,L! d b 14 v:=⟨_,e.blk.cell 14⟩;obtain⟨br,c0⟩:∃v,L! d b 15 v:=⟨_,e.blk.cell 15⟩;have b4:=e.blk.frozen 12;have b5:=e.blk.frozen 13;have b6:=e.blk.frozen 14;have b7:=e.blk.frozen 15;have c:=A? s;clear e s;go_wp2;go_roundw
     case rel=>exact⟨j+1,C,W!,A? ⟨u,(by rw[f.out,z.out,G? c.out];rw[F! a5.out];exact K),a0⟩⟩
     case measure=>simp[intOf];omega
    .have Z:=Q?.2 s;have c:=A? s;clear s;go_wp2;go_roundw
     case rel=>exact⟨j+1,C,W!,A? ⟨_,(by rw[f.out,z.out,F! c.out];rw[F! a5.out];exact q),V⟩⟩
     case measure=>simp[intOf];omega
  .obtain rfl:j=n:=B!;let⟨G1,m,F⟩:=B.out;rw[u?<|by rw[HN.out];exact Y? _]at m;have N:=A? m;clear m B;go_wp2;go_end0;exact⟨rfl,G1,N,F⟩
theorem aaM(w:D!):G! E? 226 #[] w λe o=>∃g,e=.returned (P? g)/\kC o g/\w.heap.size<=g/\K! w o:=by
 go_in
 go_wp2_with(apply kf rfl 348 _ rfl wB M?);go_ret;exact⟨_,rfl,λv s n i=>by show World.cell? _ _=_;rw[j!];exact Ao v s n i,Y? _,(P! _ _).alloc O? _⟩
theorem Xf(l:aZ)(u:Int)(w:D!)(M:jL l=C?)(a1:1<=u)(a2:u<=10):
 G! E? 185 #[.agg<|aC l,A! u] w λe i=>∃p t,e=.returned (.tuple #[P? p,A! 0])/\bJ i p t Q! (QK l u)/\kC i t/\(w.heap.size<=p/\w.heap.size<=t)/\t≠p/\K! w i:=by
 have m:=λw=>lE l w;rw[M]at m;unfold aC at m|-;have hB:K! w<|w.alloc (.cells #[A! l.iO,A! l.aH,A! l.cW,H? l.short,D? l.dh,A! l.num] 240):=R!;have D:=c! w (.cells #[A! l.iO,A! l.aH,A! l.cW,H? l.short,D? l.dh,A! l.num] 240 (0,0));go_in;go_wp2_with fail;refine M! (m _) λw1 R=>?_;have C:=bb R D;have f:=seqB hB R
 obtain⟨q,z,E,A,O,I⟩:w1.cell? (B? w.heap.size 0)=N? l.iO/\w1.cell? (B? w.heap.size 1)=N? l.aH/\w1.cell? (B? w.heap.size 2)=N? l.cW/\w1.cell? (B? w.heap.size 3)=C! (H? l.short)/\w1.cell? (B? w.heap.size 4)=C! (D? l.dh)/\w1.cell? (B? w.heap.size 5)=N? l.num:=by
  simp[World.cell?,C]
 have Y:=aaM w1.drew;go_wp2;refine dW (λi=>J? i w.heap.size 0 l.iO/\J? i w.heap.size 1 l.aH/\J? i w.heap.size 2 l.cW/\L! i w.heap.size 3 (H? l.short)/\L! i w.heap.size 4 (D? l.dh)/\J? i w.heap.size 5 l.num) (zca [4,6,1,2,8,11,12,14]) ⟨q,z,E,A,O,I⟩ ?_;refine R? ?_;intro K y;go_wp2_with(go_at_call 226;apply Y.mono;rintro e r ⟨t,rfl,N,X,j⟩);have g:=λ{a:Addr} {v:I?} (h:w1.cell? a=C! v)=>af (W:=w1.drew) j h;refine O! y ⟨g q,g z,g E,g A,g O,g I⟩ ?_;refine R? ?_;intro K y;go_wp2_with fail;have J:=Z? f.size X;have H:∀o:Obj,K! r<|r.alloc o:=λo=>(P! _ _).alloc O? o;have V:t<r.heap.size:=h!<|N 0 0 I! I!;have a0:=λo=>ak (seqB (aQ f) j) o;have F:=Z? f.size j.size;have n:=λ{a:Addr} {v:I?} (o:Obj) (h:w1.cell? a=C! v)=>af (H o)<|g h;have B:=c! r (.cells (sW t Q!<|QK l u) 242 (0,0));have L:∀o:Obj,kC (r.alloc o) t:=λo v s Z hs=>af (H o)<|N v s Z hs;refine O! y ⟨n _ q,n _ z,n _ E,n _ A,n _ O,n _ I⟩ ?_;refine T? ?_;go_wp2;go_ret2;exact⟨r.heap.size,t,rfl,B,L _,⟨F,J⟩,bbY V,a0 _⟩
def GZ(w:D!)(e:Nat)(c:cP):Prop:=∀i v,i<18->(V6 c)[i]? =C! v->L! w e i v
def UK(r:Int)(c:cP)(n h:Int)(s:Bool)(w:D!)(e:Ending)(o:D!):Prop:=
 ∃B,e=.returned (ptr B)/\w.heap.size<=B/\B<o.heap.size/\K! w o/\∀(G:Nat->Tag) (t:Tag),∃i,cI o i t B (iU r c n h s)/\Step (λ_=>False) G w i o
theorem He{m:aZ}{tries id i n:Int}{dials:Bool}{c:cP}{p e:Nat}{o:D!}(hk:jL m=C?)(E:1<=tries/\tries<=10)(q:m=tX c i n dials)(A:tries=c.tries)(y:bJ o p e Q!<|QK m tries)(f:kC o e)
 (N:w.heap.size<=p)(H:w.heap.size<=e)(j:e≠p)(u:K! w o)(I:0<w.heap.size)(G:Nat->Tag)(t:Tag):
 ∃g,cI (o.alloc (.cells (bS ⟨p,e,Q!,L?,.pointer L?,Q!,L?⟩<|iU id c i n dials) 107)) g t o.heap.size (iU id c i n dials)/\
  Step (λ_=>False) G w g (o.alloc (.cells (bS ⟨p,e,Q!,L?,.pointer L?,Q!,L?⟩<|iU id c i n dials) 107)):=by
 have S:=y.lt;have L:e<o.heap.size:=h!<|f 0 0 I! I!;have d:K! o<|o.alloc (.cells (bS ⟨p,e,Q!,L?,.pointer L?,Q!,L?⟩<|iU id c i n dials) 107):=R!;have R:=u.size;refine⟨λk=>if k<w.heap.size then G k else if k=o.heap.size then t else if k=p then t++[0]else if k=e then t++[2]else free,⟨⟨p,e,Q!,L?,.pointer L?,Q!,L?⟩,⟨aO.new _ _ _,?_,?_,?_,?_,?_,(λk hk=>o!),trivial,.inl ⟨rfl,rfl,rfl⟩,trivial⟩⟩,?_⟩
 .show(if o.heap.size<w.heap.size then _ else _)=t;exact bbB
 .subst q;subst A;exact⟨y.below d,λv s O z=>aw d<|f v s O z,aD.nil _ _,j,(λk hk=>o!),⟨⟨Y! 0,(by show(0:Int)<=9;decide)⟩,⟨Y! 0,bbh⟩,E,⟨Y! 0,(by show(0:Int)<=255;decide)⟩,hk⟩,by show p≠0;omega⟩
 .show(if p<w.heap.size then _ else if p=o.heap.size then _ else if p=p then _ else _)=_;exact mbG
 .show e<_;simp;omega
 .show(if e<w.heap.size then _ else if e=o.heap.size then _ else if e=p then _ else if e=e then _ else _)=_;rw[F! B!,F! B!,F! j,G? rfl]
 .have r:=u.trans (d.mono u.size);exact⟨r.os,r.tape,r.output,r.size,λk hk=>G? hk,λk hk _=>r.block k hk⟩
def adb(R s:Nat)(n:Int)(o:Bool)(r i:Int)(e:D!):Prop:=J? e R 0 1500/\J? e R 1 n/\J? e R 2 1500/\L! e R 3 (H? o)/\L! e R 4 (D? ⟨#[]⟩)/\J? e R 5 r/\J? e s 11 i
theorem aaN{E:Nat}{c:cP}(id e s:Int)(dials:Bool)(F:GZ w E c)(hm:0<w.heap.size)(H:1<=c.tries/\c.tries<=10)(Y:jL (tX c e s dials)=C?):
 G! E? 152 #[A! id,P? E,A! e,A! s,H? dials] w (UK id c e s dials w):=by
 have R:=F 11 _ I! rfl;have a5:=F 12 _ I! rfl;have a3:=h! R;have A:=A?<|λ(w1:D!)=>Xf (tX c e s dials) c.tries w1 Y H.1 H.2;have a0:=A? hm;have Z:=A? Y;have a1:=A? H;simp only at a3;let⟨z,M⟩:=F? c.tries;let⟨n,C⟩:=F? c.short;rw[M]at R A;rw[C]at a5;have N:=A? M;have a2:=A? C;clear F hm Y H M C;cases dials
 .have L:E!<|aC (tX c e s H!)= #[A! 1500,A! e,A! 1500,H? n,D? ⟨#[]⟩,A! 0]:=A? (by rw[<-a2.out];rfl);rw[L.out]at A;let⟨W,hW⟩:=F?<|w.alloc (.cells #[A! 1500,A! e,A! 1500,H? n,D? ⟨#[]⟩,A! 0] 240);have q:K! w W:=by rw[<-hW];exact R!
  have o:aO W w.heap.size 240 #[A! 1500,A! e,A! 1500,H? n,D? ⟨#[]⟩,A! 0]:=mee;have O:=aw q R;have r:=o.cell 0;have u:=o.cell 1;have m:=o.cell 2;have f:=o.cell 3;have g:=o.cell 4;have y:=o.cell 5;replace r:J? W w.heap.size 0 1500:=r;replace u:J? W w.heap.size 1 e:=u;replace m:J? W w.heap.size 2 1500:=m;replace f:L! W w.heap.size 3<|H? n:=f;replace g:L! W w.heap.size 4<|D? ⟨#[]⟩:=g;replace y:J? W w.heap.size 5 0:=y;have hS:E!<|∀j,K! W j->adb w.heap.size E e n 0 z j:=A? λj i=>⟨aw i r,aw i u,aw i m,aw i f,aw i g,aw i y,aw i O⟩;have Et:=A? q;have a7:=A? o.lt;have D:=A? hW;clear o q O r u m f g y hW;go_in;go_wp2_with fail;rw[D.out];refine dW (adb w.heap.size E e n 0 z) (zcb [5,1,5]) (hS _<|aQ U?) ?_;refine R? ?_;intro K I;go_wp2_with(go_at_call 185;apply(A _).mono;rintro a6 J ⟨p,a8,rfl,hneg,Cp,⟨V,X⟩,B,hb2⟩);have r8:K! W J:=(aQ U?).trans hb2;apply O! I (hS _ r8);clear I K;refine T? ?_;have HX:=A?<|λ(G:Nat->Tag) (t:Tag)=>He (w:=w) (tries:=z) (id:=id) (dials:=H!) Z (by rw[<-N.out];exact a1) rfl N.symm hneg Cp (Z? Et.size V) (Z? Et.size X) B (Et.trans<|r8.mono Et.size) a0 G t;exact nap
 .have L:E!<|aC (tX c e s C?)= #[A! 1500,A! e,A! 1500,H? n,D? ⟨#[]⟩,A! s]:=A? (by rw[<-a2.out];rfl);rw[L.out]at A;have a4:aO (w.alloc (.cells #[A! 1500,A! e,A! 1500,H? n,D? ⟨#[]⟩,A! 0] 240)) w.heap.size 240 #[A! 1500,A! e,A! 1500,H? n,D? ⟨#[]⟩,A! 0]:=aO.new _ _ _;let⟨W,hW⟩:=F?<|w.alloc (.cells #[A! 1500,A! e,A! 1500,H? n,D? ⟨#[]⟩,A! s] 240);have q:K! w W:=by rw[<-hW];exact R!
  have o:aO W w.heap.size 240 #[A! 1500,A! e,A! 1500,H? n,D? ⟨#[]⟩,A! s]:=mee;clear a4;have O:=aw q R;have r:=o.cell 0;have u:=o.cell 1;have m:=o.cell 2;have f:=o.cell 3;have g:=o.cell 4;have y:=o.cell 5;replace r:J? W w.heap.size 0 1500:=r;replace u:J? W w.heap.size 1 e:=u;replace m:J? W w.heap.size 2 1500:=m;replace f:L! W w.heap.size 3<|H? n:=f;replace g:L! W w.heap.size 4<|D? ⟨#[]⟩:=g;replace y:J? W w.heap.size 5 s:=y;have hS:E!<|∀j,K! W j->adb w.heap.size E e n s z j:=A? λj i=>⟨aw i r,aw i u,aw i m,aw i f,aw i g,aw i y,aw i O⟩;have Et:=A? q;have a7:=A? o.lt;have D:=A? hW;clear o q O r u m f g y hW;go_in;go_wp2_with fail;rw[D.out];refine dW (adb w.heap.size E e n s z) (zcb [5,1,5]) (hS _<|aQ U?) ?_;refine R? ?_;intro K I;go_wp2_with(go_at_call 185;apply(A _).mono;rintro a6 J ⟨p,a8,rfl,hneg,Cp,⟨V,X⟩,B,hb2⟩);have r8:K! W J:=(aQ U?).trans hb2;apply O! I (hS _ r8);clear I K;refine T? ?_;have HX:=A?<|λ(G:Nat->Tag) (t:Tag)=>He (w:=w) (tries:=z) (id:=id) (dials:=C?) Z (by rw[<-N.out];exact a1) rfl N.symm hneg Cp (Z? Et.size V) (Z? Et.size X) B (Et.trans<|r8.mono Et.size) a0 G t;exact nap
