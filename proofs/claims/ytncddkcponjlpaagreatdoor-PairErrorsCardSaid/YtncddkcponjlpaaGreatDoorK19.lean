/- Walks and plain laws. -/
import Derived.Test.YtncddkcponjlpaaGreatDoorK17
set_option linter.unusedVariables false
set_option linter.unusedSimpArgs false
set_option maxHeartbeats 0
set_option maxRecDepth 99999
namespace Go.Proofs.YtncddkcponjlpaaGreatDoor
open Go.RowKit Go.Proofs.Tryz
open Go renaming World→D!,Value→I?,Calls→G!,IntKind→ncy
open Go.RowKit renaming Hid→E!
open Decidable renaming decide→K?
open Option renaming some→C!,none→L?
open Bool renaming true→C?,false→H!
open Go.Proofs.Tryz renaming prog→E?
variable{P:Prop}
theorem sV(w:D!)(a:Option Addr)(l c:Nat):(binOp .eql 155 (J! a l c) Q!).run E? w=.ok (H? a.isNone) w:=by
 simp only[binOp];simp[run_equal_slice_nil w 155 203 a l c underlying155]
theorem bq.agy{w:D!}:bq dS (w.alloc (.cells #[] 203)) w.heap.size (J! (C!<|B? w.heap.size 0) 0 0) []:=
 World.ownsRow_made w #[] 0 O? I! I!
section
variable(v:I?)(l:List bD)(w:D!)(h:aI w v l)(hL:l.length*24<=140737488355328)
include v l w h hL
theorem qx:
 G! E? 219 #[v] w λe s=>(∃t,e=.returned t/\bq dS s w.heap.size t l)/\K! w s:=by
 rcases h.or with⟨rfl,rfl⟩|⟨g,o,c,rfl⟩
 .have i:=λw=>sV w L? 0 0;simp only[Option.isNone_none]at i;go_wp2;go_ret;exact⟨⟨_,rfl,bq.nil _ _ _⟩,P! _ _⟩
 .have n:K! w<|w.alloc (.cells #[] 203):=R!;have d:(([]:List bD).length+l.length)*24<=140737488355328:=by simpa using hL
  have u:bq dS (w.alloc (.cells #[] 203)) w.heap.size (J! (C!<|B? w.heap.size 0) 0 0) []:=bq.agy;have m:=h.below n;have i:=λw=>sV w (C!<|B? g o) l.length c;simp only[Option.isNone_some]at i;go_in;go_wp2_with(at_builtin;apply Ck rfl _ _ rfl w _ _ [] l u m rfl rfl d n;intro t y f r _ _);go_ret;exact⟨⟨t,rfl,by simpa using f⟩,r⟩
theorem vC:
 G! E? 222 #[v] w λe o=>(∃t,e=.returned t/\bq dS o w.heap.size t l)/\K! w o:=by
 have n:=qx v l w h hL;obtain⟨a,c,rfl,_,_⟩:=aD.form h;go_in;go_wp2_with fail;apply n.mono;rintro e w1 ⟨⟨t,rfl,s⟩,i⟩;go_wp2;go_ret;exact⟨⟨t,rfl,s⟩,i⟩
end
def Gc(t e:I?)(r:cL):Array Value:= #[A! r.p.code,A! r.p.id,t,D? r.p.data,A! r.event,A! r.verdict,e]
def cl(w:D!)(q:Nat)(t e:I?)(r:cL):Prop:=w.heap[q]? =C! (.cells (Gc t e r) 246 (0,0))
section
variable{w:D!}{q:Nat}{po ov:I?}{r:cL}(h:cl w q po ov r)
include h
theorem cl.cell(i:Nat):w.cell? (B? q i)=(Gc po ov r)[i]? :=by
 unfold cl at h;simp[World.cell?,h]
theorem cl.k(i:Nat){v:I?}(e:Nfx (Gc po ov r).toList i v:=by repeat(first|exact Nfx.z _ _|apply Nfx.s)):w.cell? (B? q i)=C! v:=Nfx.of (h.cell i) e
theorem cl.frozen(i:Nat):w.frozen? (B? q i)=false:=by
 unfold cl at h;simp[World.frozen?,h]
theorem cl.lt:q<w.heap.size:=(i!.1 h).1
end
theorem cl.below{w i:D!}{q:Nat}{o e:I?}{r:cL}(h:cl w q o e r)(n:K! w i):cl i q o e r:=bb n h
theorem cl.only{w o:D!}{S:Nat->Prop}{q:Nat}{t e:I?}{r:cL}(h:cl w q t e r)(n:Only S w o)(i:¬S q):cl o q t e r:=n.heap h i
theorem cl.cells{w:D!}{q:Nat}{t e:I?}{r:cL}(h:cl w q t e r):
 J? w q 0 r.p.code/\J? w q 1 r.p.id/\L! w q 2 t/\L! w q 3 (D? r.p.data)/\J? w q 4 r.event/\J? w q 5 r.verdict/\L! w q 6 e:=
 ⟨h.cell 0,h.cell 1,h.cell 2,h.cell 3,h.cell 4,h.cell 5,h.cell 6⟩
theorem D6(w:D!)(e t o i:I?){ob:Obj}:((w.alloc (.cells #[e,t,o,i] 220)).alloc ob).cell? (B? w.heap.size 0)=C! e/\((w.alloc (.cells #[e,t,o,i] 220)).alloc ob).cell? (B? w.heap.size 1)=C! t/\((w.alloc (.cells #[e,t,o,i] 220)).alloc ob).cell? (B? w.heap.size 2)=C! o/\((w.alloc (.cells #[e,t,o,i] 220)).alloc ob).cell? (B? w.heap.size 3)=C! i:=by
 let⟨s,r,h,l⟩:=Gb w e t o i;have n:Below (w.alloc (.cells #[e,t,o,i] 220)).heap.size (w.alloc (.cells #[e,t,o,i] 220))<|(w.alloc (.cells #[e,t,o,i] 220)).alloc ob:=R!;exact⟨af n s,af n r,af n h,af n l⟩
theorem oF(W:D!)(B:Nat)(t o n s:I?):Only (λk=>k=B) W<|(((W.setCell (B? B 0) t).setCell (B? B 1) o).setCell (B? B 2) n).setCell (B? B 3) s:=by
 have e:∀(V:D!),Only (λk=>k=B) W V->∀(i:Nat) (y:I?),Only (λk=>k=B) W<|V.setCell (B? B i) y:=λV h i y=>h.set (a:=B? B i) (.inl rfl) y;exact e _ (e _ (e _ (e _ (Only.refl _ W) 0 t) 1 o) 2 n) 3 s
def cm(k:bg)(v:I?):Array Value:= #[A! k.code,A! k.id,v,D? k.data]
def Cq(p t:Nat)(o:I?)(s:cu)(i:Int)(r:cL)(w:D!)(e:Ending)(h:D!):Prop:=
 ∃k v n,e=.returned (.tuple #[.agg<|cm k v,H? (nk s i r).2.isSome])/\(∀l,(nk s i r).2=C! l->k=l)/\bq dS h w.heap.size v k.opts/\
  bJ h p t n (nk s i r).1/\((n=o/\(nk s i r).1.os=s.os)\/bq dS h w.heap.size n (nk s i r).1.os)/\Only (· =p) w h/\∀k,v.ownBlock=C! k->n.ownBlock≠C! k
theorem Le(p q:Nat)(u c:I?)(r:cL)(w:D!)(o:cl w q u c r):
 G! E? 210 #[P? p,A! 11,P? q] w (S? w (.tuple #[.agg #[A! 6,A! (if r.event=10 then r.p.id else 0),Q!,D? ⟨#[]⟩],H? C?])):=by
 let⟨f,i,g,y,n,b,k⟩:=o.cells;have m:=o.lt;let⟨s,l⟩:=F? r.event;let⟨t,d⟩:=F? r.p.id;rw[l]at n|-;rw[d]at i|-;by_cases e:s=10
 .subst e;rw[G? rfl];go_in;go_wp2_with fail;let⟨k0,k1,k2,k3⟩:=D6 w (A! 6) (A! t) Q! (D? ⟨#[]⟩) (ob:=.cells #[A! 6,A! t,Q!,D? ⟨#[]⟩] 220);refine V? (v:=.tuple #[.agg #[A! 6,A! t,Q!,D? ⟨#[]⟩],H? C?]) baK rfl ⟨rfl,ak R! _⟩
 .rw[F! e];have j:=Q?.2 e;go_in;go_wp2_with fail;let⟨k0,k1,k2,k3⟩:=D6 w (A! 6) (A! 0) Q! (D? ⟨#[]⟩) (ob:=.cells xaB 220);refine V? (v:=.tuple #[.agg xaB,H? C?]) baK rfl ⟨rfl,ak R! _⟩
theorem VV(p q:Nat)(I O:I?)(r:cL)(w:D!)(g:cl w q I O r):
 G! E? 210 #[P? p,A! 13,P? q] w (S? w (.tuple #[.agg #[A! 10,A! r.p.id,Q!,D? r.p.data],H?<|r.p.code==9])):=by
 have hB:∀u:Obj,K! w<|w.alloc u:=λu=>ak U? u;have y:=g.lt;let⟨o,i,b,n,j,z,E⟩:=cl.cells<|g.below<|hB (.cells xac 220);have e:=c! w (.cells xac 220 (0,0));have f:=hB (.cells xac 220);go_in;go_wp2_with fail;generalize w.alloc (.cells xac 220)=W at o i b n j z E e f|-;have s:=bbY y;refine dW (λm=>J? m q 0 r.p.code/\J? m q 1 r.p.id/\L! m q 3 (D? r.p.data)) (zcb [17,1,1]) ⟨o,i,n⟩ ?_;refine tK ?_;let⟨N,R,H,L⟩:=cY e;have D:=bw e 0;have C:=bw e 1;have M:=bw e 2;have F:=bw e 3;refine ai λK A=>?_;go_wp2_with fail;have t:=oF W.drew w.heap.size (A! 10) (A! r.p.id) Q!<|D? r.p.data;refine O! A ⟨t.cell (a:=B? q 0) o s,t.cell (a:=B? q 1) i s,t.cell (a:=B? q 3) n s⟩ ?_;refine T? ?_;go_wp2_with fail;let⟨k0,k1,k2,k3⟩:=cY<|lg e (A! 10) (A! r.p.id) Q!<|D? r.p.data;refine V? (v:=.tuple #[.agg #[A! 10,A! r.p.id,Q!,D? r.p.data],H?<|r.p.code==9]) baK rfl ⟨rfl,?_⟩;exact(Only.aP (S:=λk=>k=w.heap.size) f.drew).trans t|>.below O? λk h=>B!
theorem Zh(l:aZ):(ju l).length<=6:=by
 unfold ju;rw[g!];exact Z? (ϝ _ _) I!
theorem Zi(p t:Nat)(o:I?)(s:cu)(br:I?)(w:D!)(h:bJ w p t o s)(hi:0<=s.id/\s.id<=255)(bi:0<=s.left/\s.left<=10)(hm:jL s.own=C?):
 G! E? 210 #[.pointer<|C! ⟨p,0,L?⟩,.int .i64 7,br] w λe E=>∃v a6,e=.returned (.tuple #[.agg #[.int .i64 1,.int .i64 (Vn s).asked,v,D? ⟨#[]⟩],H? C?])/\bq dS E w.heap.size v (ju s.own)/\bJ E p t a6 (Vn s)/\bq dS E w.heap.size a6 (ju s.own)/\Only (· =p) w E/\(∀k,v.ownBlock=C! k->a6.ownBlock≠C! k):=by
 have hB:∀N:Obj,Below w.heap.size w<|w.alloc N:=λN=>ak U? N;have am:=λN=>JG p t o s (w.alloc N) (h.below<|hB N) bi;have V:=λw1 (C:bJ w1 p t o<|lP s)=>F9 p t o (lP s) w1 C hi;have c4:=h.lt;have B:=λW=>Y1 s.own W hm;unfold aC at B;have ba:=Zh s.own;have b5:{oK (lP s)with asked:=(oK<|lP s).id,os:=ju s.own}=Vn s:=rfl;have b4:(Vn s).asked=(oK<|lP s).id:=rfl;rw[b4,<-b5];let⟨u,bf⟩:=F?<|(oK<|lP s).id;let⟨s2,ag⟩:=F?<|oK<|lP s;have jA:s2.own=s.own:=by rw[<-ag];rfl
 let⟨ca,bm⟩:=F?<|lP s;rw[bf]at V|-;rw[ag]at V|-;rw[bm]at V am;generalize ju s.own=n at B ba|-;generalize s.own=R at B jA;go_in;go_wp2_with fail;apply(am _).mono;rintro e w1 ⟨rfl,bj,ad⟩;go_wp2_with fail;apply(V _ bj).mono;rintro e y ⟨rfl,a2,ae⟩;have H:¬(w.heap.size=p):=B!;have b6:=(((Only.refl (· =p) w).alloc _).trans ad).trans ae;have bd:=ae.heap (ad.heap (c! w (.cells xay 220 (0,0))) H) H;have bx:=a2.frozen 17;have a9:=a2.k 17;have z:=a2.set 17 (.int .i64 u) o {s2 with asked:=u} rfl;have Z:=b6.trans<|ay y p 17 (.int .i64 u);have ac:=(ay y p 17 (.int .i64 u)).heap bd H;have c5:(y.setCell ⟨p,17,L?⟩ (.int .i64 u)).cell? ⟨p,4,L?⟩=C! (.int .i64 R.iO):=(z.cell 4).trans bbl;have c6:(y.setCell ⟨p,17,L?⟩ (.int .i64 u)).cell? ⟨p,4+1,L?⟩=C! (.int .i64 R.aH):=(z.cell 5).trans bbl;have c7:(y.setCell ⟨p,17,L?⟩ (.int .i64 u)).cell? ⟨p,4+2,L?⟩=C! (.int .i64 R.cW):=(z.cell 6).trans bbl;have c8:(y.setCell ⟨p,17,L?⟩ (.int .i64 u)).cell? ⟨p,4+3,L?⟩=C! (H? R.short):=(z.cell 7).trans bbl;have c9:(y.setCell ⟨p,17,L?⟩ (.int .i64 u)).cell? ⟨p,4+4,L?⟩=C! (D? R.dh):=(z.cell 8).trans bbl;have k9:(y.setCell ⟨p,17,L?⟩ (.int .i64 u)).cell? ⟨p,4+5,L?⟩=C! (.int .i64 R.num):=(z.cell 9).trans bbl;go_wp2_with fail;apply(B _).mono;rintro e X ⟨ov,rfl,K,a1⟩;obtain⟨f,g,rfl,bs,bv⟩:=aD.form K.at;have a3:=z.below a1;have aa:=a3.k 18;have b7:=Z.then a1;have be:=bb a1 ac;have bz:=a3.frozen 18;have F:=a3.set 18 (J! f n.length g) (J! f n.length g) {s2 with asked:=u,os:=n} rfl;have a0:=b7.trans<|ay X p 18<|J! f n.length g;have M:=(ay X p 18<|J! f n.length g).heap be H;have Y:=(K.only (ay X p 18<|J! f n.length g) (λk j e=>by have:=K.block k j;have:=Z.size;have q:(y.setCell ⟨p,17,L?⟩ (.int .i64 u)).heap.size=(y.setCell (B? p 17) (.int .i64 u)).heap.size:=rfl;omega)).base Z.size
 have bl:∀k,(Value.slice f n.length g).ownBlock=C! k->¬k=w.heap.size:=λk j e=>by
  have C:=K.block k j;have ab:=(i!.1 ac).1;have q:(y.setCell ⟨p,17,L?⟩ (.int .i64 u)).heap.size=(y.setCell (B? p 17) (.int .i64 u)).heap.size:=rfl;omega
 go_wp2_with fail;generalize X.setCell ⟨p,18,L?⟩ (J! f n.length g)=m at F a0 M Y|-;have a7:m.cell? ⟨p,17,L?⟩=C! (.int .i64 u):=F.k 17;have a8:=F.k 18;have bc:=vC (J! f n.length g) n m.drew (Y.at) B!;let⟨az,b0,b1,b2⟩:=cY M;refine dW (λE=>E.cell? ⟨p,17,L?⟩=C! (.int .i64 u)/\E.cell? ⟨p,18,L?⟩=C! (J! f n.length g)) (zcb [8,1,1,1,1]) ⟨a7,a8⟩ ?_;refine R? ?_;intro an J;go_wp2_with(go_at_call 222;apply bc.mono;rintro e al ⟨⟨cb,rfl,G⟩,O⟩;obtain⟨L,D,rfl,cc,cd⟩:=aD.form G.at);refine O! J ⟨af (W:=m.drew) O a7,af (W:=m.drew) O a8⟩ ?_;refine tK ?_;have I:=bb (w:=m.drew) O M;have a4:=bJ.below (w:=m.drew) F O;have b8:=(a0.drew).then O;have ar:=bq.below (w:=m.drew) Y O;have av:=G.base a0.size;have a9:al.cell? ⟨p,17,L?⟩=C! (.int .i64 u):=a4.k 17;have aa:=a4.k 18
 have ao:∀k,(Value.slice L n.length D).ownBlock=C! k->¬k=w.heap.size:=λk j e=>by
  have C:=G.block k j;have ab:=(i!.1 M).1;have b3:m.drew.heap.size=m.heap.size:=rfl;omega
 have bo:∀k,(Value.slice L n.length D).ownBlock=C! k->(Value.slice f n.length g).ownBlock≠C! k:=λk j e=>by
  have C:=G.block k j;have ab:=Y.lt k e;have b3:m.drew.heap.size=m.heap.size:=rfl;omega
 let⟨az,b0,b1,b2⟩:=cY I;have c0:=bw I 0;have c1:=bw I 1;have c2:=bw I 2;have c3:=bw I 3;refine ai λan J=>?_;go_wp2_with fail;have A:=oF al w.heap.size (.int .i64 1) (.int .i64 u) (J! L n.length D)<|D? ⟨#[]⟩;have a5:p≠w.heap.size:=λe=>H e.symm;refine O! J ⟨A.cell (a:=⟨p,17,L?⟩) a9 a5,A.cell (a:=⟨p,18,L?⟩) aa a5⟩ ?_;refine T? ?_;have b9:Only (· =p) w _:=b8.and A λi hi=>.inr B!;have bk:=A.heap a4 a5;have ax:=ar.only A bl;have ap:=av.only A ao;let⟨k0,k1,k2,k3⟩:=cY<|lg I (.int .i64 1) (.int .i64 u) (J! L n.length D)<|D? ⟨#[]⟩;go_wp2;refine V? (v:=.tuple #[.agg #[.int .i64 1,.int .i64 u,J! L n.length D,D? ⟨#[]⟩],H? C?]) baK rfl ⟨_,_,rfl,ap,bk,ax,b9,bo⟩
theorem Zj(p q:Nat)(ae V:I?)(r:cL)(w:D!)(B:cl w q ae V r)(R:aI w V r.os)(a8:r.os.length<=1000000):
 G! E? 210 #[P? p,A! 9,P? q] w λe g=>∃v,e=.returned (.tuple #[.agg #[A! (if r.verdict=2 then 4 else 3),A! r.p.id,v,D? ⟨#[]⟩],H? C?])/\bq dS g w.heap.size v r.os/\K! w g:=by
 have hB:∀F:Obj,K! w<|w.alloc F:=λF=>ak U? F;have J:=B.lt;obtain⟨I,N,rfl,X,ao⟩:=aD.form R;let⟨ap,H,ar,av,ax,Z,L⟩:=B.cells;let⟨al,ad⟩:=F? r.verdict;let⟨id,aa⟩:=F? r.p.id;let⟨t,ac⟩:=F? r.os;rw[ad]at Z|-;rw[aa]at H|-;rw[ac]at L R a8 X|-;have O:=bbY J
 have G:∀(W u:D!) (A:Int) (o:Option Addr) (i:Nat),K! w W->W.heap[w.heap.size]? =C! (.cells xac 220 (0,0))->bq dS u W.heap.size (J! o t.length i) t->Below W.heap.size W.drew u->
  bq dS ((((u.setCell (B? w.heap.size 0)<|A! A).setCell (B? w.heap.size 1)<|A! id).setCell (B? w.heap.size 2)<|J! o t.length i).setCell (B? w.heap.size 3)<|D? ⟨#[]⟩) w.heap.size (J! o t.length i) t/\
  K! w ((((u.setCell (B? w.heap.size 0)<|A! A).setCell (B? w.heap.size 1)<|A! id).setCell (B? w.heap.size 2)<|J! o t.length i).setCell (B? w.heap.size 3)<|D? ⟨#[]⟩):=by
  intro W u A o i n f Y a9;have hS:=oF u w.heap.size (A! A) (A! id) (J! o t.length i)<|D? ⟨#[]⟩;have az:=(i!.1 f).1;refine⟨(Y.only hS (λk ab e=>by have:=Y.block k ab;omega)).base n.size,?_⟩;exact(((Only.aP (S:=λk=>k=w.heap.size) n.drew).then (w1:=W.drew) a9).trans hS).below O? λk h=>B!
 by_cases M:al=2
 .subst M;rw[G? rfl];go_in;go_wp2_with fail;have n:=hB (.cells xac 220);have f:=c! w (.cells xac 220 (0,0));generalize w.alloc (.cells xac 220)=W at f n|-;have k1:=af n H;have E:=af n L;have C:=vC (J! I t.length N) t W.drew (R.below n.drew) B!;refine dW (λg=>J? g q 1 id/\L! g q 6 (J! I t.length N)) (zcb [10,1,1,1,1]) ⟨k1,E⟩ ?_;refine R? ?_;intro K y;go_wp2_with(go_at_call 222;apply C.mono;rintro e u ⟨⟨ag,rfl,j⟩,m⟩;obtain⟨o,i,rfl,am,an⟩:=aD.form j.at);have j1:=af (W:=W.drew) m k1;have z:=af (W:=W.drew) m E;refine O! y ⟨j1,z⟩ ?_;refine tK ?_;have s:=bb (w:=W.drew) m f;let⟨a0,a1,a2,a3⟩:=cY s;have a4:=bw s 0;have a5:=bw s 1;have a6:=bw s 2;have a7:=bw s 3;have D:=G W u 4 o i n f j m;refine ai λK y=>?_;go_wp2_with fail;have b:=oF u w.heap.size (A! 4) (A! id) (J! o t.length i)<|D? ⟨#[]⟩;refine O! y ⟨b.cell (a:=B? q 1) j1 O,b.cell (a:=B? q 6) z O⟩ ?_;refine T? ?_;let⟨k0,k1,k2,k3⟩:=cY<|lg s (A! 4) (A! id) (J! o t.length i)<|D? ⟨#[]⟩;go_wp2;refine V? (v:=.tuple #[.agg #[A! 4,A! id,J! o t.length i,D? ⟨#[]⟩],H? C?]) baK rfl ⟨_,rfl,D⟩
 .rw[F! M];have b0:=Q?.2 M;go_in;go_wp2_with fail;have n:=hB (.cells xac 220);have f:=c! w (.cells xac 220 (0,0));generalize w.alloc (.cells xac 220)=W at f n|-;have k1:=af n H;have E:=af n L;have C:=vC (J! I t.length N) t W.drew (R.below n.drew) B!;refine dW (λg=>J? g q 1 id/\L! g q 6 (J! I t.length N)) (zcb [10,1,1,1,1]) ⟨k1,E⟩ ?_;refine R? ?_;intro K y;go_wp2_with(go_at_call 222;apply C.mono;rintro e u ⟨⟨ag,rfl,j⟩,m⟩;obtain⟨o,i,rfl,am,an⟩:=aD.form j.at);have j1:=af (W:=W.drew) m k1;have z:=af (W:=W.drew) m E;refine O! y ⟨j1,z⟩ ?_;refine tK ?_;have s:=bb (w:=W.drew) m f;let⟨a0,a1,a2,a3⟩:=cY s;have a4:=bw s 0;have a5:=bw s 1;have a6:=bw s 2;have a7:=bw s 3;have D:=G W u 3 o i n f j m;refine ai λK y=>?_;go_wp2_with fail;have b:=oF u w.heap.size (A! 3) (A! id) (J! o t.length i)<|D? ⟨#[]⟩;refine O! y ⟨b.cell (a:=B? q 1) j1 O,b.cell (a:=B? q 6) z O⟩ ?_;refine T? ?_;let⟨k0,k1,k2,k3⟩:=cY<|lg s (A! 3) (A! id) (J! o t.length i)<|D? ⟨#[]⟩;go_wp2;refine V? (v:=.tuple #[.agg #[A! 3,A! id,J! o t.length i,D? ⟨#[]⟩],H? C?]) baK rfl ⟨_,rfl,D⟩
def wK(w:D!)(p i:Nat)(l:aZ):World:=
 (((((w.setCell (B? p i)<|A! l.iO).setCell (B? p<|i+1)<|A! l.aH).setCell (B? p<|i+2)<|A! l.cW).setCell (B? p<|i+3)<|H? l.short).setCell (B? p<|i+4)<|D? l.dh).setCell (B? p<|i+5) (A! l.num)
theorem Cr(w:D!)(p i:Nat)(l:aZ):Only (· =p) w<|wK w p i l:=by
 have e:∀(V:D!),Only (· =p) w V->∀(i:Nat) (y:I?),Only (· =p) w<|V.setCell (B? p i) y:=λV h i y=>h.set (a:=B? p i) (.inl rfl) y;exact e _ (e _ (e _ (e _ (e _ (e _ (Only.refl _ w) _ _) _ _) _ _) _ _) _ _) _ _
section
variable{w:D!}{p t:Nat}{o:I?}{s:cu}(h:bJ w p t o s)
include h
theorem IU(l:aZ):bJ (wK w p 10 l) p t o {s with other:=l}:=by
 have e:=h.set 10 (A! l.iO) o {s with other:={s.other with iO:=l.iO}} rfl;have i:=e.set 11 (A! l.aH) o {s with other:={s.other with iO:=l.iO,aH:=l.aH}} rfl;have n:=i.set 12 (A! l.cW) o {s with other:={s.other with iO:=l.iO,aH:=l.aH,cW:=l.cW}} rfl;have r:=n.set 13 (H? l.short) o {s with other:={s.other with iO:=l.iO,aH:=l.aH,cW:=l.cW,short:=l.short}} rfl;have d:=r.set 14 (D? l.dh) o {s with other:={s.other with iO:=l.iO,aH:=l.aH,cW:=l.cW,short:=l.short,dh:=l.dh}} rfl;exact d.set 15 (A! l.num) o {s with other:=l} rfl
theorem NX(l:aZ):bJ (wK w p 4 l) p t o {s with own:=l}:=by
 have e:=h.set 4 (A! l.iO) o {s with own:={s.own with iO:=l.iO}} rfl;have i:=e.set 5 (A! l.aH) o {s with own:={s.own with iO:=l.iO,aH:=l.aH}} rfl;have n:=i.set 6 (A! l.cW) o {s with own:={s.own with iO:=l.iO,aH:=l.aH,cW:=l.cW}} rfl;have r:=n.set 7 (H? l.short) o {s with own:={s.own with iO:=l.iO,aH:=l.aH,cW:=l.cW,short:=l.short}} rfl;have d:=r.set 8 (D? l.dh) o {s with own:={s.own with iO:=l.iO,aH:=l.aH,cW:=l.cW,short:=l.short,dh:=l.dh}} rfl;exact d.set 9 (A! l.num) o {s with own:=l} rfl
theorem bJ.others:
 J? w p 10 s.other.iO/\J? w p (10+1) s.other.aH/\J? w p (10+2) s.other.cW/\L! w p (10+3) (H? s.other.short)/\L! w p (10+4) (D? s.other.dh)/\J? w p (10+5) s.other.num:=
 ⟨h.cell 10,h.cell 11,h.cell 12,h.cell 13,h.cell 14,h.cell 15⟩
theorem bJ.owns:
 J? w p 4 s.own.iO/\J? w p (4+1) s.own.aH/\J? w p (4+2) s.own.cW/\L! w p (4+3) (H? s.own.short)/\L! w p (4+4) (D? s.own.dh)/\J? w p (4+5) s.own.num:=
 ⟨h.cell 4,h.cell 5,h.cell 6,h.cell 7,h.cell 8,h.cell 9⟩
end
theorem Zk(p a4 q:Nat)(a2 b3 H:I?)(a3:cu)(r:cL)(w:D!)(h:bJ w p a4 a2 a3)(J:cl w q b3 H r)(E:aI w H r.os)(ae:r.os.length<=1000000)(X:q≠p)(V:∀k,H.ownBlock=C! k->k≠p):
 G! E? 210 #[P? p,A! 8,P? q] w λe f=>∃v,e=.returned (.tuple #[.agg #[A! 2,A! r.p.id,v,D? ⟨#[]⟩],H? C?])/\bq dS f w.heap.size v r.os/\bJ f p a4 a2 {a3 with other:=(jg r.os).1}/\Only (· =p) w f:=by
 have hB:∀R:Obj,K! w<|w.alloc R:=λR=>ak U? R;have a8:=J.lt;have b1:=h.lt;obtain⟨j,z,rfl,a6,b5⟩:=aD.form E;let⟨b6,C,b7,b8,b9,ba,M⟩:=J.cells;let⟨id,ar⟩:=F? r.p.id;let⟨t,b0⟩:=F? r.os;rw[ar]at C|-;rw[b0]at M E ae a6 V|-;have b:=λW (am:aI W (J! j t.length z) t)=>Q9 _ t W am;generalize jg t=L at b|-;obtain⟨L,c9⟩:=L;unfold aC at b;dsimp only at b|-;have B:=bbY a8;have K:=bbY b1;go_in;go_wp2_with fail;have n:=hB (.cells xac 220);have F:=c! w (.cells xac 220 (0,0));generalize w.alloc (.cells xac 220)=W at F n|-;refine M! (b _<|E.below n) λw1 u=>?_;have i:=(h.below n).below u;have k1:=af u<|af n C;have b2:=af u<|af n M;have ap:=bb u F;have aa:=(E.below n).below u;have ad:=seqB n u;let⟨bi,bj,bk,bl,bm,bo⟩:=i.others;have br:=i.frozen 10;have bs:=i.frozen<|10+1;have bv:=i.frozen<|10+2;have bx:=i.frozen<|10+3;have bz:=i.frozen<|10+4;have c0:=i.frozen<|10+5;go_wp2_with fail;have an:(((((w1.setCell (B? p 10)<|A! L.iO).setCell (B? p 11)<|A! L.aH).setCell (B? p 12)<|A! L.cW).setCell (B? p 13)<|H? L.short).setCell (B? p 14)<|D? L.dh).setCell (B? p 15) (A! L.num)=wK w1 p 10 L:=rfl;rw[an];have s:=Cr w1 p 10 L;have Y:=IU i L;generalize wK w1 p 10 L=o at s Y|-;have j1:=s.cell (a:=B? q 1) k1 X;have a1:=s.cell (a:=B? q 6) b2 X;have G:=s.heap ap λe=>K e.symm;have ab:aI o (J! j t.length z) t:=aa.only s V;have D:=(Only.aP ad).trans s;have ao:=vC (J! j t.length z) t o.drew (ab.below (P! _ _).drew) B!;refine dW (λf=>J? f q 1 id/\L! f q 6 (J! j t.length z)) (zcb [9,1,1,1,1]) ⟨j1,a1⟩ ?_;refine R? ?_;intro a5 I;go_wp2_with(go_at_call 222;apply ao.mono;rintro e b4 ⟨⟨ca,rfl,N⟩,y⟩;obtain⟨A,O,rfl,cb,cc⟩:=aD.form N.at);have Z:=af (W:=o.drew) y j1;have a0:=af (W:=o.drew) y a1;refine O! I ⟨Z,a0⟩ ?_;refine tK ?_;have m:=bb (w:=o.drew) y G;have ax:=bJ.below (w:=o.drew) Y y;have ag:=(D.drew).then y
 have a7:∀k,(Value.slice A t.length O).ownBlock=C! k->¬k=w.heap.size:=λk av e=>by
  have c5:=N.block k av;have c6:=(i!.1 G).1;have c7:o.drew.heap.size=o.heap.size:=rfl;omega
 have ac:=N.base D.size;let⟨bc,bd,be,bf⟩:=cY m;have c1:=bw m 0;have c2:=bw m 1;have c3:=bw m 2;have c4:=bw m 3;refine ai λa5 I=>?_;go_wp2_with fail;have g:=oF b4 w.heap.size (A! 2) (A! id) (J! A t.length O)<|D? ⟨#[]⟩;refine O! I ⟨g.cell (a:=B? q 1) Z B,g.cell (a:=B? q 6) a0 B⟩ ?_;refine T? ?_;have al:Only (· =p) w _:=ag.and g λc8 hi=>.inr B!;have az:=g.heap ax K;have a9:=ac.only g a7;let⟨k0,k1,k2,k3⟩:=cY<|lg m (A! 2) (A! id) (J! A t.length O)<|D? ⟨#[]⟩;go_wp2;refine V? (v:=.tuple #[.agg #[A! 2,A! id,J! A t.length O,D? ⟨#[]⟩],H? C?]) baK rfl ⟨_,rfl,a9,az,al⟩
section
structure cO(N:Nat)(m:fD):Prop where
 a:Fit N 0 (m.a,m.s)
 b:Fit N 0 (m.b,m.s)
 sa:m.a.side=0
 sb:m.b.side=1
 cc:m.b.c=m.a.c
 ta:m.a.now=m.time
 tb:m.b.now=m.time
 t0:0<=m.time
 t1:m.time<=1073741824
 r0:0<=m.random
 r1:m.random<=1099511627776
 ld:m.b.load=m.a.load
 qa:fN m.a.queue<=m.a.c.cv
 qb:fN m.b.queue<=m.a.c.cv
 ka:m.cr.length<=N
 kb:m.cH.length<=N
variable{N:Nat}{m m' m2:fD}
theorem cO.mono(h:cO N m){M:Nat}(e:N<=M):cO M m:=
 ⟨h.a.mono e<|Y? 0,h.b.mono e<|Y? 0,h.sa,h.sb,h.cc,h.ta,h.tb,h.t0,h.t1,h.r0,h.r1,h.ld,h.qa,h.qb,Z? h.ka e,Z? h.kb e⟩
structure iN(m m':fD):Prop where
 c:m'.a.c=m.a.c
 t:m.time<=m'.time
 ca:∃cs,m'.a.changes=m.a.changes++cs/\∀x∈cs,m.time<=x.yC/\x.yC<=m'.time
 cb:∃cs,m'.b.changes=m.b.changes++cs/\∀x∈cs,m.time<=x.yC/\x.yC<=m'.time
 ga:∃gs,m'.a.got=m.a.got++gs
 gb:∃gs,m'.b.got=m.b.got++gs
 ka:∃ks,m'.cr=m.cr++ks
 kb:∃ks,m'.cH=m.cH++ks
theorem iN.refl(m:fD):iN m m:=⟨rfl,Y! _,⟨[],N!,λx hx=>ϭ⟩,⟨[],N!,λx hx=>ϭ⟩,⟨[],N!⟩,⟨[],N!⟩,⟨[],N!⟩,⟨[],N!⟩⟩
theorem wR{e:Type}{a b c:List e}(h:∃x,b=a++x)(k:∃x,c=b++x):∃x,c=a++x:=by
 obtain⟨x,rfl⟩:=h;obtain⟨y,rfl⟩:=k;exact⟨x++y,by rw[baa]⟩
theorem Ey{a b c:List Ch}{t o i:Int}(r:t<=o)(l:o<=i)(h:∃x,b=a++x/\∀y∈x,t<=y.yC/\y.yC<=o)(k:∃x,c=b++x/\∀y∈x,o<=y.yC/\y.yC<=i):∃x,c=a++x/\∀y∈x,t<=y.yC/\y.yC<=i:=by
 obtain⟨x,rfl,n⟩:=h;obtain⟨y,rfl,s⟩:=k;refine⟨x++y,by rw[baa],λz e=>?_⟩;rcases ό.1 e with e|e
 .have:=n z e;omega
 .have:=s z e;omega
theorem iN.trans(h:iN m m')(k:iN m' m2):iN m m2:=
 ⟨k.c.trans h.c,o? h.t k.t,Ey h.t k.t h.ca k.ca,Ey h.t k.t h.cb k.cb,wR h.ga k.ga,wR h.gb k.gb,wR h.ka k.ka,wR h.kb k.kb⟩
theorem cO.switch(h:cO N m){M:Nat}(n:N<=M){S:aU}(i:jZ M S)(t:m.s.last<=S.last)(o:S.aV=m.s.aV):cO M {m with s:=S}:=
 have e:=h.mono n
 ⟨⟨e.a.p,i,o? h.a.la t,o.trans h.a.po,h.a.l8⟩,⟨e.b.p,i,o? h.b.la t,o.trans h.b.po,h.b.l8⟩,h.sa,h.sb,h.cc,h.ta,h.tb,h.t0,h.t1,h.r0,h.r1,h.ld,h.qa,h.qb,e.ka,e.kb⟩
theorem iN.switch(m:fD)(S:aU):iN m {m with s:=S}:={iN.refl m with}
theorem wrap_small{x:Int}(e:0<=x)(t:x<=4398046511104):wrap64 x=x:=by
 unfold wrap64;omega
theorem Pw(h:cO N m)(E:m.time+1<=1073741824):cO (N+1200000) (jQ m)/\iN m (jQ m)/\(jQ m).time=m.time+1:=by
 have S:=h.t0;have R:=h.r0;have H:=h.r1;have A:wrap64 (m.random+m.time)=m.random+m.time:=wrap_small B! B!;unfold jQ;dsimp only;rw[A];let⟨i,t,k,r⟩:=Me h.a (m.random+m.time) B!;generalize nu (m.a,m.s) (m.random+m.time)=x at i t k r|-;simp only at t r;have q:Fit (N+600000) 0 (m.b,x.2):=⟨(h.b.mono (M:=N+600000) (s:=0) B!<|Y? 0).p,i.s,o? h.b.la r,by rw[i.po,t.c];exact h.cc▸rfl,h.b.l8⟩;let⟨l,o,j,d⟩:=Me q (m.random+m.time) B!;generalize nu (m.b,x.2) (m.random+m.time)=y at l o j d|-;simp only at o d;have g:=l.mono (M:=N+1200000) (s:=0) B!<|Y? 0;have v:=i.mono (M:=N+1200000) (s:=0) B!<|Y? 0;have b:=h.mono (M:=N+1200000) B!;have O:x.1.now=m.time+1:=by rw[t.now,h.ta]
 have I:y.1.now=m.time+1:=by rw[o.now,h.tb]
 have n:=t.c;have w:=o.c.trans h.cc;refine⟨⟨⟨v.p,g.s,o? i.la d,?_,i.l8⟩,g,t.side.trans h.sa,o.side.trans h.sb,w.trans n.symm,O,I,(by show 0<=m.time+1;omega),E,h.r0,h.r1,o.load.trans<|h.ld.trans t.load.symm,?_,?_,b.ka,b.kb⟩,⟨n,(by show m.time<=m.time+1;omega),?_,?_,t.gt,o.gt,⟨[],N!⟩,⟨[],N!⟩⟩,rfl⟩
 .show y.2.aV=x.1.c.aV;rw[l.po,w,n]
 .show fN x.1.queue<=x.1.c.cv;rw[n];exact o? t.ql h.qa
 .show fN y.1.queue<=x.1.c.cv;rw[n];exact o? o.ql h.qb
 .let⟨c,e,u⟩:=t.ch;refine⟨c,e,λz f=>?_⟩;have:=u z f;have:=h.ta;show m.time<=z.yC/\z.yC<=m.time+1;omega
 .let⟨c,e,u⟩:=o.ch;refine⟨c,e,λz f=>?_⟩;have:=u z f;have:=h.tb;show m.time<=z.yC/\z.yC<=m.time+1;omega
theorem r9:∀(n:Nat) {N:Nat} {m:fD},cO N m->m.time+n<=1073741824->cO (N+1200000*n) (bV n m)/\iN m (bV n m)/\(bV n m).time=m.time+n
 |0,N,m,h,_=>⟨h,iN.refl m,by show m.time=m.time+0;omega⟩
 |n+1,N,m,h,l=>by
  let⟨t,o,e⟩:=Pw h B!;let⟨i,s,r⟩:=r9 n t (by rw[e];omega);refine⟨i.mono B!,o.trans s,?_⟩;show(bV n<|jQ m).time=_;rw[r,e];omega
theorem Kl(p:aF)(s:ByteArray):(bE p s).1.c=p.c/\(bE p s).1.changes=p.changes/\(bE p s).1.got=p.got/\(bE p s).1.now=p.now/\(bE p s).1.side=p.side/\(bE p s).1.load=p.load:=by
 unfold bE;split
 .exact⟨rfl,rfl,rfl,rfl,rfl,rfl⟩
 .split<;>exact⟨rfl,rfl,rfl,rfl,rfl,rfl⟩
theorem Ta(h:cO N m)(d:ByteArray):cO (N+1) {m with a:=(bE m.a d).1,cr:=if(bE m.a d).2=0 then m.cr++[d]else m.cr}/\iN m {m with a:=(bE m.a d).1,cr:=if(bE m.a d).2=0 then m.cr++[d]else m.cr}:=by
 let⟨t,s,r,l,c,u⟩:=Kl m.a d;let⟨o,i,n⟩:=Kh h.a d;have f:=h.mono (M:=N+1) B!;let⟨R,g⟩:=F?<|bE m.a d;simp only at o i n;rw[g]at t s r l c u o i n|-;refine⟨⟨o,f.b,c.trans h.sa,h.sb,h.cc.trans t.symm,l.trans h.ta,h.tb,h.t0,h.t1,h.r0,h.r1,h.ld.trans u.symm,?_,(by show fN m.b.queue<=R.1.c.cv;rw[t];exact h.qb),?_,f.kb⟩,⟨t,Y! _,⟨[],by show R.1.changes=_;rw[s];simp,λx hx=>ϭ⟩,⟨[],N!,λx hx=>ϭ⟩,⟨[],by show R.1.got=_;rw[r];simp⟩,⟨[],N!⟩,?_,⟨[],N!⟩⟩⟩
 .show fN R.1.queue<=R.1.c.cv;rw[t];by_cases e:R.2=0
  .exact i e
  .rw[n e];exact h.qa
 .show(if R.2=0 then _ else _:List ByteArray).length<=_;have:=h.ka;split
  .rw[X!,baW];omega
  .omega
 .show∃w,(if R.2=0 then _ else _:List ByteArray)=_;split
  .exact⟨_,rfl⟩
  .exact⟨[],N!⟩
theorem Tb(h:cO N m)(d:ByteArray):cO (N+1) {m with b:=(bE m.b d).1,cH:=if(bE m.b d).2=0 then m.cH++[d]else m.cH}/\iN m {m with b:=(bE m.b d).1,cH:=if(bE m.b d).2=0 then m.cH++[d]else m.cH}:=by
 let⟨n,s,r,l,c,u⟩:=Kl m.b d;let⟨t,o,i⟩:=Kh h.b d;have f:=h.mono (M:=N+1) B!;let⟨R,g⟩:=F?<|bE m.b d;simp only at t o i;rw[g]at n s r l c u t o i|-;refine⟨⟨f.a,t,h.sa,c.trans h.sb,n.trans h.cc,h.ta,l.trans h.tb,h.t0,h.t1,h.r0,h.r1,u.trans h.ld,h.qa,?_,f.ka,?_⟩,⟨rfl,Y! _,⟨[],N!,λx hx=>ϭ⟩,⟨[],by show R.1.changes=_;rw[s];simp,λx hx=>ϭ⟩,⟨[],N!⟩,⟨[],by show R.1.got=_;rw[r];simp⟩,⟨[],N!⟩,?_⟩⟩
 .show fN R.1.queue<=m.a.c.cv;rw[<-h.cc];by_cases e:R.2=0
  .exact o e
  .rw[i e,h.cc];exact h.qb
 .show(if R.2=0 then _ else _:List ByteArray).length<=_;have:=h.kb;split
  .rw[X!,baW];omega
  .omega
 .show∃w,(if R.2=0 then _ else _:List ByteArray)=_;split
  .exact⟨_,rfl⟩
  .exact⟨[],N!⟩
theorem Px{N r:Nat}{p:aF}{S:aU}(h:Fit N r (p,S))(n:Int):Fit N r ((jD p n).1,S):=by
 unfold jD;split
 .exact h
 .exact⟨{h.p with ld0:=(by show 0<=n;omega),ld1:=(by show n<=1048576;omega)},h.s,h.la,h.po,h.l8⟩
theorem abg(h:cO N m)(n:Int):cO N {m with a:=(jD m.a n).1,b:=(jD m.b n).1}/\iN m {m with a:=(jD m.a n).1,b:=(jD m.b n).1}:=by
 have e:=Px h.a n;have t:=Px h.b n;unfold jD at e t|-;split
 .rename_i o;rw[G? o]at e t;exact⟨h,iN.refl m⟩
 .rename_i o;rw[F! o]at e t;exact⟨⟨e,t,h.sa,h.sb,h.cc,h.ta,h.tb,h.t0,h.t1,h.r0,h.r1,rfl,h.qa,h.qb,h.ka,h.kb⟩,{iN.refl m with}⟩
theorem abh{s:aU}(c i e:Int):(lX s c i e).1.aV=s.aV/\(lX s c i e).1.last=s.last:=by
 unfold lX;exact meT
theorem abj{s:aU}(c i:Int):(rM s c i).1.aV=s.aV/\(rM s c i).1.last=s.last:=by
 unfold rM;split<;>exact⟨rfl,rfl⟩
theorem abk{s:aU}(n:Int):(vl s n).1.aV=s.aV/\(vl s n).1.last=s.last:=by
 unfold vl;split<;>exact⟨rfl,rfl⟩
theorem Xx(h:cO N m)(x:Bg)(c:x.n<=9223372036854775807):cO (N+4915200001) (gr m x).1/\iN m (gr m x).1:=by
 have t:=h.mono (M:=N+4915200001) B!
 have n:∀{S:aU},jZ (N+1) S->m.s.last<=S.last->S.aV=m.s.aV->cO (N+4915200001) {m with s:=S}/\iN m {m with s:=S}:=λr l d=>
  ⟨(h.switch (M:=N+1) B! r l d).mono B!,iN.switch _ _⟩
 unfold gr;split
 .split
  .exact⟨t,iN.refl m⟩
  .rename_i f;let⟨o,i,_⟩:=r9 x.n.toNat h B!;exact⟨o.mono B!,i⟩
 .split
  .split
   .let⟨o,i⟩:=Ta h x.data;exact⟨o.mono B!,i⟩
   .split
    .let⟨o,i⟩:=Tb h x.data;exact⟨o.mono B!,i⟩
    .exact⟨t,iN.refl m⟩
  .split
   .let⟨e,e2⟩:=(vL (s:=m.s) x.n 0).2;exact n ((h.a.s.aff x.n).mono B!) bce e
   .split
    .let⟨e,e2⟩:=abj (s:=m.s) x.n x.peer;exact n (h.a.s.aiG x.n x.peer) bce e
    .split
     .let⟨e,e2⟩:=abh (s:=m.s) x.n x.peer (xG x.data);exact n ((h.a.s.turn x.n x.peer<|xG x.data).mono B!) bce e
     .split
      .let⟨e,e2⟩:=abk (s:=m.s) x.n;exact n ((h.a.s.fail x.n c).mono B!) bce e
      .split
       .split
        .exact⟨t,iN.refl m⟩
        .exact⟨⟨t.a,t.b,h.sa,h.sb,h.cc,h.ta,h.tb,h.t0,h.t1,(by show 0<=x.n;omega),(by show x.n<=_;omega),h.ld,h.qa,h.qb,t.ka,t.kb⟩,{iN.refl m with}⟩
       .split
        .let⟨u,e,e2⟩:=O6 (s:=m.s) x.n x.peer x.data 0;exact n (h.a.s.send x.n x.peer x.data) bce e
        .split
         .let⟨o,i⟩:=abg h x.n;exact⟨o.mono B!,i⟩
         .exact⟨t,iN.refl m⟩
theorem Ez(c:cP)(t:iH c=C?)(e:Int)(n:e=0\/e=1):Fit 0 0 (rU c e,sw c.aV 65536):=by
 have h:=L7 t;have s:=h.ra;refine⟨⟨h,n,iq.new _ _ B! B!,xK.new _,xL.new _ _ (by have:=h.t2;omega) h.t10,Y! 0,ma1,Y! 0,Y! 0,Y! 0,ma1,Y! 0,Y! 0,baT,(λi l o=>absurd o Ξ),Y? 0,Y? 0⟩,jZ.new _ h.p1 h.p8,Y! 0,rfl,?_⟩;have:=h.p1;show((0:Nat):Int)<=c.aV;omega
theorem Py(c:cP)(e:iH c=C?):cO 0<|js c:=by
 have h:=L7 e;have t:=h.w1;exact⟨Ez c e 0 (.inl rfl),Ez c e 1 (.inr rfl),rfl,rfl,rfl,rfl,rfl,Y! 0,ma1,Y! 0,ma1,rfl,(by show(0:Int)+0<=c.cv;omega),(by show(0:Int)+0<=c.cv;omega),Y? 0,Y? 0⟩
end
