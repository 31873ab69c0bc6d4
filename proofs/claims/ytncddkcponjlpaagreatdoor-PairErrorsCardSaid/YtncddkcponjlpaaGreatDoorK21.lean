/- Walks and plain laws. -/
import Derived.Test.YtncddkcponjlpaaGreatDoorK20
set_option linter.unusedVariables false
set_option linter.unusedSimpArgs false
set_option maxHeartbeats 0
set_option maxRecDepth 99999
namespace Go.Proofs.YtncddkcponjlpaaGreatDoor
open Go.RowKit Go.Proofs.Tryz
open Go renaming World→D!,Value→I?,Calls→G!,IntKind→ncy
open Go.RowKit renaming Hid→E!
open Decidable renaming decide→K?
open Option renaming some→C!,none→L?
open Bool renaming true→C?,false→H!
open Go.Proofs.Tryz renaming prog→E?
variable{P:Prop}
variable{w w1:D!}{b lb hb:Nat}{m m':aT}
theorem Rb(e:aZ)(w:D!)(g:jL e=C?):
 G! E? 256 #[.agg<|aC e,Q!] w (S? w (.tuple #[A! 0,Q!,A! 0])):=by
 have o:=λw=>lE e w;rw[g]at o;have t:=A? jU;rw[t.out]at o|-;go_in;go_wp2_with fail;refine M! (o _) λw1 r=>?_;have u:w1.heap[w.heap.size]? =C! (.cells (aC e) 240 (0,0)):=bb r (by rw[t.out];exact c! _ _);let⟨y,v,k,j,q,z⟩:=oB u;have c:=seqB R! r;go_wp2_with fail;have n:K! w<|w1.alloc (.cells (aC e) 363):=ak c _;rw[t.out]at n;generalize w1.alloc (.cells #[A! e.iO,A! e.aH,A! e.cW,H? e.short,D? e.dh,A! e.num] 363)=s at n|-;go_loopw[8,9,22] (λb d i wr=>i=A! 0/\b=Q!/\d=Q!/\s=wr) (λ_ _ _ _=>0)
 case atStart=>exact⟨rfl,rfl,rfl,rfl⟩
 case round=>
  obtain⟨rfl,rfl,rfl,rfl⟩:=hrel;let⟨l,f,E,A,O⟩:=BL dS;go_wp2_with(at_builtin;refine wpList_append_own_none rfl _ _ _ rfl s.heap.size 203 l l.size underlying155 f Q! 0 [] rfl ⟨N!,.inl ⟨rfl,rfl⟩⟩ rfl ?_);go_ret3;exact⟨rfl,n⟩
theorem Rc(t:aZ)(v:I?)(i:List bD)(w:D!)(n:jL t=C?)(r:aI w v i)(d:i.length<=1000000):
 G! E? 256 #[.agg<|aC t,v] w λe s=>∃v,e=.returned (.tuple #[A! (gT t i).1,v,A! (gT t i).2.2])/\bq dS s w.heap.size v (gT t i).2.1/\K! w s:=by
 rcases r.or with⟨rfl,rfl⟩|⟨g,o,c,rfl⟩
 .have h:gT t []=(0,[],0):=by unfold gT;rw[F!<|by rw[n];simp];rfl
  rw[h];exact(Rb t w n).mono λe s ⟨l,hb⟩=>⟨Q!,l,bq.nil _ _ _,hb⟩
 .exact NI t g o c i w n r d
theorem Rj:(prog.fieldsOf 203).toList.map (λf=>(f.name== "_",f.offset,f.type))=[(H!,0,3),(H!,1,9)]:=M?
theorem acF(a b:bD)(w:D!):(binOp .neq 203 (.agg #[A! a.1,D? a.2]) (.agg #[A! b.1,D? b.2])).run E? w=.ok (H?<|!(a.1==b.1&&a.2.toList==b.2.toList)) w:=by
 rw[run_neq_struct,run_equalIn_agg w 9999 203 _ _ M? M?];have t:=Rj;generalize(prog.fieldsOf 203).toList=e at t
 obtain⟨o,i,rfl⟩:∃o i,e=[o,i]:=by
  cases e with
  |nil=>cases t
  |cons o e=>
   cases e with
   |nil=>simp at t
   |cons i e=>
    cases e with
    |nil=>exact⟨_,_,rfl⟩
    |cons _ _=>simp at t
 simp only[i?,y!,List.cons.injEq,baZ,and_true]at t;obtain⟨⟨n,r,g⟩,s,l,y⟩:=t;have u:o.name≠ "_":=by simpa using n
 have f:i.name≠ "_":=by simpa using s
 simp only[Op.eqFields,r,l,g,y,G? u,G? f,maQ];have d:∀x:bD,(part 3 #[A! x.1,D? x.2] 0).run E? w=.ok (A! x.1) w:=λx=>run_part_plain w M? rfl;have c:∀x:bD,(part 9 #[A! x.1,D? x.2] 1).run E? w=.ok (D? x.2) w:=λx=>run_part_plain w M? rfl;simp only[d,mcm,run_equalIn_int (P:=E?) w 9998 3 .i64 .i64 a.1 b.1 underlying3];cases v:(a.1==b.1)with
 |false=>simp[bcB]
 |true=>
  simp only[bbU,η,q?,c,mcm,maQ,run_equalIn_string (P:=E?) w 9998 9 a.2 b.2 underlying9];cases k:(a.2.toList==b.2.toList)with
  |false=>simp[bcB]
  |true=>simp[bcB]
theorem Rk(i n:I?)(t o:List bD)(w:D!)(r:aI w i t)(l:aI w n o)(d:t.length≠o.length):
 G! E? 257 #[i,n] w (S? w<|H?<|K? (t=o)):=by
 obtain⟨c,f,rfl,_,_⟩:=aD.form r;obtain⟨u,g,rfl,_,_⟩:=aD.form l;have s:=A?<|W?<|λe=>d<|U! _ e;have y:¬((t.length:Int)=(o.length:Int)):=B!;go_wp2;go_ret;exact⟨by rw[s.out];rfl,P! _ _⟩
theorem NS(E O W A I Y:Nat)(t o:List bD)(w:D!)(B:aI w (J! (C!<|B? E O) t.length W) t)(Z:aI w (J! (C!<|B? A I) o.length Y) o)(hn:t.length=o.length):
 G! E? 257 #[J! (C!<|B? E O) t.length W,J! (C!<|B? A I) o.length Y] w (S? w<|H?<|K? (t=o)):=by
 have a2:=aD.le B;have K:=A? (aI.cells B).2.2.2;have X:=A? (aI.cells Z).2.2.2;rw[<-hn];let⟨n,D⟩:=F? t.length;have H:=A? D;have F:=A?<|hn▸D;rw[D]at a2|-;go_wp2;go_loopw[13] (λi wr=>∃j:Nat,j<=n/\i=A! j/\K! w wr/\∀i (hi:i<t.length) (N:i<o.length),i<j->t[i]=o[i]) (λi _=>n-(intOf i).toNat)
 case atStart=>exact⟨0,S! _,rfl,P! _ _,λi _ _ h=>absurd h<|bb9 _⟩
 case round=>
  obtain⟨j,a5,rfl,u,a3⟩:=hrel;have G:=A? a3;by_cases V:j<n
  .have a0:j<t.length:=by rw[H.out];exact V
   have a1:j<o.length:=by rw[F.out];exact V
   let⟨f,g⟩:=K j a0;let⟨q,z⟩:=X j a1;replace f:=af u f;replace g:=af u g;replace q:=af u q;replace z:=af u z;have r:=acF t[j] o[j];by_cases R:t[j]=o[j]
   .have J:E! (∀(i:Nat) (hi:i<t.length) (N:i<o.length),i<j+1->t[i]=o[i]):=A? (λi hi N a4=>by
     by_cases e:i=j
     .subst e;exact R
     .exact G i hi N B!)
    rw[show(t[j].1==o[j].1&&t[j].2.toList==o[j].2.toList)=C? by rw[R];simp]at r;let⟨x,C⟩:=F?<|t[j];let⟨y,M⟩:=F?<|o[j];rw[C]at f g r;rw[M]at q z r;simp only[bbU]at r;go_wp2;refine dW (λs=>J? s E (O+j*2) x.1/\L! s E (O+j*2+1) (D? x.2)/\J? s A (I+j*2) y.1/\L! s A (I+j*2+1) (D? y.2)) (zcb [9]) ⟨f,g,q,z⟩ ?_;refine T? ?_;go_wp2;go_roundw
    case rel=>exact⟨j+1,B!,W!,nX u _,J⟩
    case measure=>simp[intOf];omega
   .have L:E!<|K? (t=o)=false:=A? (W?<|λe=>R<|by subst e;rfl)
    rw[show(t[j].1==o[j].1&&t[j].2.toList==o[j].2.toList)=H! from by
     cases h:(t[j].1==o[j].1&&t[j].2.toList==o[j].2.toList)with
     |false=>rfl
     |true=>
      simp only[k!,κ]at h;exact absurd (Prod.ext h.1 (by have:=h.2;rw[dG,dG]at this;exact mcK (Array.toList_inj.1 this))) R]at r
    let⟨x,C⟩:=F?<|t[j];let⟨y,M⟩:=F?<|o[j];rw[C]at f g r;rw[M]at q z r;simp only[bcz]at r;go_wp2;refine dW (λs=>J? s E (O+j*2) x.1/\L! s E (O+j*2+1) (D? x.2)/\J? s A (I+j*2) y.1/\L! s A (I+j*2+1) (D? y.2)) (zcb [9]) ⟨f,g,q,z⟩ ?_;refine T? ?_;go_wp2;go_ret;exact⟨by rw[L.out];rfl,nX u _⟩
  .obtain rfl:j=n:=B!;have L:=A?<|b!<|List.ext_getElem (by rw[H.out,F.out])<|λi hi N=>G i hi N<|by rw[<-H.out];exact hi
   go_wp2
   go_ret;exact⟨by rw[L.out];rfl,u⟩
theorem NU(e t:Option Addr)(o n:Nat)(w:D!):
 G! E? 257 #[J! e 0 o,J! t 0 n] w (S? w<|H? C?):=by
 go_wp2
 go_loopw[13] (λi wr=>i=A! 0/\wr=w) (λ_ _=>0)
 case atStart=>exact⟨rfl,rfl⟩
 case round=>
  obtain⟨rfl,rfl⟩:=hrel;go_wp2;go_ret;exact⟨rfl,P! _ _⟩
theorem Rl(d c:I?)(t o:List bD)(w:D!)(i:aI w d t)(n:aI w c o):
 G! E? 257 #[d,c] w (S? w<|H?<|K? (t=o)):=by
 by_cases s:t.length=o.length
 .by_cases l:t=[]
  .subst l;obtain rfl:o=[]:=y? s.symm;obtain⟨u,r,rfl,_,_⟩:=aD.form i;obtain⟨f,h,rfl,_,_⟩:=aD.form n;exact NU u f r h w
  .rcases i.or with⟨e,_⟩|⟨g,v,r,rfl⟩
   .exact absurd e l
   .rcases n.or with⟨e,_⟩|⟨y,k,h,rfl⟩
    .subst e;exact absurd (y? s) l
    .exact NS g v r y k h t o w i n s
 .exact Rk d c t o w i n s
theorem zM(p t:Nat)(o:I?)(s:cu)(w:D!)(h:bJ w p t o s):
 G! E? 119 #[P? p] w (T! w<|A! s.state):=by
 have n:=h.k 1;exact d?
section
variable{G G1:Nat->Tag}{t:Tag}{m m':bh}
theorem lM(w:D!)(a:Addr)(v:I?):(w.setCell a v).heap.size=w.heap.size:=by simp[World.setCell]
theorem RP(k:Int)(h:eC w G t b m):G! E? 273 #[ptr b,A! k] w (kO t b (pG m k).1 G w<|A! (pG m k).2):=by
 have H0:=A? h;obtain⟨x,h⟩:=h;have S:=h.blk.k 6;have f:=h.look k;unfold pG;unfold ptr at*
 cases d:au m.lanes k with
 |false=>
  rw[F! I!];rw[d,F! I!]at f;exact bbG
 |true=>
  rw[G? rfl];rw[d,G? rfl]at f;let⟨v,n⟩:=h.uK d;have R:=n.blk.frozen 1;have H:=n.blk.k 1
  have I:kO t b {m with lanes:=bI m.lanes k {aL m k with drains:=C?}} G w (A! 0) (.returned<|A! 0)<|w.setCell (B? (x.f k) 1)<|H? true:=by
   have g:=ay w (x.f k) 1<|H? C?
   have N:∀i,v.ownBlock=C! i->i≠x.f k:=λi l e=>by
    have u:=(n.row.2 i l).2;rw[e,n.tag]at u;simp at u
   let⟨y,z,E⟩:=n.E8 (l':={aL m k with drains:=C?}) (g.mono λ_ _ e=>.inl e) (n.blk.set 1 (H? C?) rfl) (n.row.1.heap λi l=>g.block i (n.row.2 i l).1<|N i l) λi l=>.inl l;let⟨A,O⟩:=h.LL d E z;exact⟨rfl,y,⟨x,A⟩,O⟩
  have j:=A? I;go_wp2;go_ret;exact j
theorem Ws(k:Int)(h:eC w G t b m):G! E? 182 #[ptr b,A! k] w (kO t b (vk m k).1 G w<|A! (vk m k).2):=by
 have H0:=A? h;obtain⟨x,h⟩:=h;have C:=h.blk.k 6;have j:=h.look k;have H:=A? h;unfold vk;unfold ptr at*
 cases f:au m.lanes k with
 |false=>
  rw[G? rfl];rw[f,F! I!]at j;exact bbG
 |true=>
  rw[F! I!];rw[f,G? rfl]at j;let⟨v,z⟩:=h.uK f;obtain⟨a,c,rfl,I,M⟩:=z.row.1.form;have g:=z.blk.k 0;by_cases u:(aL m k).waits=[]
  .rw[F!<|λe=>e u];rw[u]at g;simp only[l?]at g;go_in;go_wp2_with(refine fW rfl _ _ rfl underlying135 underlying3 k H.ml rfl rfl λw1 y d F=>?_);go_ret;let⟨W,S,R,D⟩:=H.ne;rw[fZ]at y;let⟨E,A,O⟩:=H.E8 (v':=x.v) (m':={m with lanes:=dB m.lanes k}) (d.mono λ_ _ e=>.inr (.inr (.inl e))) (H.blk.only d<|X? S) (H.IG.1.heap λi n=>d.block i (H.IG.2 i n).1 (D i n).2.2) (λi n=>.inl n) (H.mo.only d R) y λi l n=>(List.mem_filter.1 n).1;exact⟨rfl,E,⟨_,A⟩,O⟩
  .rw[G? u];have N:=ϛ.2 u;generalize (aL m k).waits.length=L at g N I;exact bbG
theorem OC(s:ByteArray)(h:eC w G t b m)(al:ia m)(F:m.bB.length<=1099511627776/\m.opn.length<=1099511627776):G! E? 90 #[ptr b,D? s] w (kO t b (ig m s).1 G w<|A! (ig m s).2):=by
 have H0:=A? h;have g:=λw=>Oz (s.size:Int) w;have N:=A?<|λ(w1:D!) (hb:K! w w1)=>OA (h.aP hb).1 F;unfold ig;unfold ptr at*
 by_cases V:s.size<1\/1500<s.size
 .rw[G? V];have e:(decide ((1:Int)<=(s.size:Int))&&K? ((s.size:Int)<=1500))=false:=p!;rw[e]at g;go_in;go_wp2_with fail;apply(g _).mono;rintro e ab ⟨rfl,rfl⟩;exact bbG
 .rw[F! V];have e:(decide ((1:Int)<=(s.size:Int))&&K? ((s.size:Int)<=1500))=true:=p!;rw[e]at g;generalize fN m=a2 at N|-;by_cases M:64<=a2
  .rw[G? M];go_in;go_wp2_with fail;apply(g _).mono;rintro e ab ⟨rfl,rfl⟩;go_wp2_with fail;refine M! (N _ U?) λw1 S=>?_;go_wp2;go_ret;let⟨O,I⟩:=H0.aP S;exact⟨rfl,_,O,I⟩
  .rw[F! M];have am:=F.1;go_in;go_wp2_with fail;refine d! (g _) ?_;go_wp2_with fail;refine M! (N _ U?) λw1 S=>?_;let⟨O,I⟩:=H0.aP S;obtain⟨x,l⟩:=O;have a3:=l.blk.k 3;have ae:=l.blk.frozen 3;have L:=A? l.IG.1;have A:=A? λk n=>(l.IG.2 k n).1;have aa:E!<|(m.bB.length+1)*fB.bytes<=140737488355328:=A? (by show(m.bB.length+1)*16<=_;omega);let⟨v,K⟩:=F? x.v;rw[K]at a3 L A;have u:=A? K;have ac:=l.blk.lt;go_wp2_with(at_builtin;refine dz fB rfl _ _ rfl v m.bB s _ L A rfl _ rfl rfl aa I! λv' d B z H=>?_;obtain⟨y,j,rfl,-,-⟩:=B.form;have E:aO d b 137<|oA x m:=l.blk.only z<|λe=>(l.ne.2.2.2 b<|by rw[u.out];exact e).1 rfl;have ag:=E.frozen 3;have ad:=E.k 3;have a1:=A? E);go_ret;let⟨a8,a9,ao,X⟩:=l.ne;have a5:Only (λk=>k=b\/k=x.mo\/k=x.ml\/x.v.ownBlock=C! k) w1 d:=z.mono λk _ n=>.inr (.inr (.inr<|by rw[u.out];exact n));have a4:=a5.trans<|(ay d b 3<|J! y (m.bB++[s]).length j).mono λk _ n=>.inl n;have Y:Only (λk=>k=b\/v.ownBlock=C! k) w1<|d.setCell (B? b 3)<|J! y (m.bB++[s]).length j:=(z.mono λk _ n=>.inr n).trans<|(ay d b 3<|J! y (m.bB++[s]).length j).mono λk _ n=>.inl n
   have a7:∀k,(Value.slice y (m.bB++[s]).length j).ownBlock=C! k->k≠b:=λk n e=>by
    rcases H k n with C|C
    .exact(X k<|by rw[u.out];exact C).1 e
    .omega
   have D:∀k,k=x.mo\/k=x.ml->¬(k=b\/v.ownBlock=C! k):=λk n e=>by
    rcases e with rfl|e
    .rcases n with rfl|rfl
     .exact a8 rfl
     .exact a9 rfl
    .have:=X k (by rw[u.out];exact e);rcases n with rfl|rfl
     .exact this.2.1 rfl
     .exact this.2.2 rfl
   let⟨a0,J,Z⟩:=l.E8 (v':=J! y (m.bB++[s]).length j) (m':={m with bB:=m.bB++[s]}) a4 (a1.set 3 _ rfl) (B.heap λk n=>(ay d b 3 _).block k (by rcases H k n with e|e;(have:=A k e;have:=z.size;omega);exact e.2)<|a7 k n)
    (λk n=>by
      rcases H k n with e|e
      .exact .inl (by rw[u.out];exact e)
      .exact .inr ⟨e.1,bbQ⟩) (l.mo.only Y (D _ (.inl rfl))) (l.ml.only Y (D _ (.inr rfl))) (λi an a6=>a6)
   rw[show(m.bB++[s]).length=m.bB.length+1 from N!]at J Z;exact⟨rfl,a0,⟨_,J⟩,I.trans Z⟩
end
section
theorem bp.Zy{es es':ES}(h:bp w b es)(h':bp w b es'):es=es':=by
 obtain⟨ents,clock,h1,_,h2⟩:=h;obtain⟨Fz,clock',h1',_,h2'⟩:=h';rw[h1]at h1';cases h1'
 rw[h2]at h2'
 have:Function.Injective<|λx:Int×Value=>(Value.int .i64 x.1,x.2):=by
  rintro⟨a1,a2⟩ ⟨b1,b2⟩ e;simp at e;rw[e.1,e.2]
 exact(List.map_inj_right λx y e=>this e).1 h2'
theorem Pt{α β:Type}{f:Int->α->β}(hf:∀k x y,f k x=f k y->x=y){l l':KV α}(h:dY f l=dY f l'):l=l':=by
 have:Function.Injective<|λx:Int×α=>(x.1,f x.1 x.2):=by
  rintro⟨a1,a2⟩ ⟨b1,b2⟩ e;simp at e;obtain⟨rfl,e⟩:=e;rw[hf _ _ _ e]
 exact(List.map_inj_right λx y e=>this e).1 h
theorem cE.inj(h:cE w b lb hb m)(h':cE w b lb hb m'):m=m':=by
 have e:sx lb hb m=sx lb hb m':=by
  have h1:=h.blk;have h2:=h'.blk;unfold aO at h1 h2;rw[h1]at h2;simpa using h2
 have e1:=Pt (λk x y e=>by simpa using e)<|h.ml.Zy h'.ml
 have e2:=Pt (λk x y e=>by
  obtain⟨a1,a2,a3,a4⟩:=x;obtain⟨b1,b2,b3,b4⟩:=y;simp[yI,dc]at e;obtain⟨rfl,rfl,rfl,rfl⟩:=e;rfl) (h.mh.Zy h'.mh)
 obtain⟨q1,q2,q3,q4,q5,q6⟩:=m;obtain⟨r1,r2,r3,r4,r5,r6⟩:=m';simp[sx]at e e1 e2;obtain⟨_,rfl,rfl,rfl,rfl⟩:=e;subst e1;subst e2;rfl
open Classical in
noncomputable def muW (b lb hb:Nat)(w:D!):Nat:=if h:∃m,cE w b lb hb m then Gq h.choose else 0
theorem DL(h:cE w b lb hb m):muW b lb hb w=Gq m:=by
 unfold muW;have hx:∃m,cE w b lb hb m:=⟨m,h⟩;rw[dif_pos hx,hx.choose_spec.inj h]
theorem Mh{n:Nat}{j j':aT}{out:List ByteArray}{o:Option (List UInt8)}{R:aT×List ByteArray}(h:Gq j<n/\R=sM n j out)(hg:Lx j out.length)(hs:fA j=(j',o,true)):
 (Gq j'<n-1/\R=sM (n-1) j' (told out o))/\Lx j' (told out o).length/\Gq j'<Gq j:=by
 obtain⟨k,rfl⟩:∃k,n=k+1:=⟨n-1,B!⟩;have hd:=(Dv hg.g<|by rw[hs]).2;have hi:=hg.step (by rw[hs]);rw[hs]at hd hi;refine⟨⟨by simp only at hd;omega,?_⟩,hi,hd⟩;rw[h.2,Dw,hs];rfl
theorem US{n:Nat}{j:aT}{out:List ByteArray}{R:aT×List ByteArray}(h:Gq j<n/\R=sM n j out)(hs:fA j=(j,none,false)):R=(j,out):=by
 obtain⟨k,rfl⟩:∃k,n=k+1:=⟨n-1,B!⟩;rw[h.2,Dw,hs];rfl
theorem S7{j:aT}{f:bF}{m:Int}(h:(fU j f m).2.2=false):(fU j f m)=(j,none,false):=by
 unfold fU at h|-;split
 .rename_i e;rw[G? e]at h;cases h
 .rename_i e;rw[F! e]at h;dsimp only at h|-;split
  .rename_i e;rw[G? e]at h;cases h
  .rename_i e;rw[F! e]at h;split
   .rename_i e;rw[G? e]at h;cases h
   .rename_i e;rw[F! e]at h;split
    .rename_i e;rw[G? e]at h;cases h
    .rfl
def UT(b hb:Nat)(j:aT)(w':World):Prop:=w'.cell? (B? b 5)=some (.map<|some hb)/\w'.cell? (B? b 3)=N? j.most/\∀ty,(Builtin.len_ #[152] ty #[.map<|some hb]).run prog w'=.ok (A! j.held.length) w'
def aa9(b hb:Nat)(next:Int)(f:bF)(is:Bool)(w':World):Prop:=w'.cell? (B? b 1)=N? next/\w'.cell? (B? b 5)=some (.map<|some hb)/\(Instr.lookup 152 (.map<|some hb) (A! next) true).run prog w'=.ok (.tuple #[.agg #[.bool f.b,.bool f.e,A! f.seq,.string f.d],.bool is]) w'
theorem wQ(j:aT):0<=ji j/\ji j<=cG j:=by
 rcases yX j with⟨_,e⟩|⟨x,_,e,_⟩
 .have:=eF j;omega
 .have:=lj j x.1;omega
def mN(w:World)(n:Nat)(v:Value)(l:List ByteArray):Prop:=jd fB w v l/\∀k,v.ownBlock=some k->n<=k/\k<w.heap.size
theorem mN.only{n:Nat}{v:Value}{l:List ByteArray}{S:Nat->Prop}(h:mN w n v l)(ho:Only S w w1)(hS:∀k,S k->k<n):mN w1 n v l:=
 ⟨h.1.heap λk hk=>ho.block k (h.2 k hk).2 λe=>by have:=hS k e;have:=(h.2 k hk).1;omega,λk hk=>⟨(h.2 k hk).1,Z! (h.2 k hk).2 ho.size⟩⟩
theorem cE.low(h:cE w b lb hb m):∀k,xM b lb hb k->k<w.heap.size:=λk hk=>by
 have h1:=h.blk.lt;have h2:=h.ml.lt;have h3:=h.mh.lt;rcases hk with rfl|rfl|rfl<;>assumption
theorem aba(h:cE w b lb hb m)(hi:Lx m 0):Calls prog 200 #[ptr b] w λe w'=>∃v,e=.returned v/\mN w' w.heap.size v (sM (rL m) m []).2/\cE w' b lb hb (sM (rL m) m []).1/\Only (xM b lb hb) w w':=by
 have hlow:=A? h.low;obtain⟨R,hR⟩:∃R,sM (rL m) m []=R:=⟨_,rfl⟩;rw[hR];have HR:Hid<|Gq m<rL m/\R=sM (rL m) m []:=A? ⟨by have:=Lw m;unfold rL;omega,hR.symm⟩;have H:=A? h;have HI:=A? hi;clear h hR hi;unfold ptr at*
 go_wp2
 go_loopw[3] (λv wr=>∃(n:Nat) (j:aT) (out:List ByteArray),mN wr w.heap.size v out/\cE wr b lb hb j/\Only (xM b lb hb) w wr/\Hid (Lx j out.length)/\Hid (Gq j<n/\R=sM n j out)) (λ_ wr=>muW b lb hb wr)
 case atStart=>exact⟨rL m,m,[],⟨jd.nil _ _,λk hk=>o!⟩,H,Only.refl _ _,HI,HR⟩
 case round=>
  obtain⟨n,j,out,hown,hj,ho,hinv,hrun⟩:=hrel;have hmu:=DL hj;clear H HI HR;obtain⟨hg,hd,hl0,hl1,Qy⟩:=hinv.out;have hD:Pq j:=⟨hd,B!⟩;have HU:=A?<|λw h=>Wx (w:=w) (b:=b) (lb:=lb) (hb:=hb) (m:=j) h hg;have HF:=A?<|λf mm w h=>S6 (w:=w) (b:=b) (lb:=lb) (hb:=hb) (m:=j) f mm h hg hD ⟨hl0,hl1⟩;have HLe:=A?<|λw h=>RQ (w:=w) (b:=b) (lb:=lb) (hb:=hb) (m:=j) h hg;have HLt:=A?<|λo w h ho=>Ht (w:=w) (b:=b) (lb:=lb) (hb:=hb) (m:=j) o h hg ho ⟨hl0,hl1⟩;have HAt:=A?<|λo w h ho=>CF (w:=w) (b:=b) (lb:=lb) (hb:=hb) (m:=j) o h hg ho;have HJ:=A? hj;unfold ptr uo Bu at*
  go_wp2_with(go_at_call 236;refine(HU _ HJ).mono ?_;rintro e w2 ⟨rfl,hb2⟩);have hj2:=hj.below hb2;have hS:Hid<|∀w',cE w' b lb hb j->w'.cell? (B? b 1)=N? j.next/\w'.cell? (B? b 5)=some (.map<|some hb)/\(Instr.lookup 152 (.map<|some hb) (A! j.next) true).run prog w'=.ok (um j j.next) w':=A?<|λw' h=>⟨h.c1,h.c5,h.um _⟩;obtain⟨f,hf⟩:∃f,(bt j.held j.next).getD eZ=f:=⟨_,rfl⟩;obtain⟨is,his⟩:∃is,au j.held j.next=is:=⟨_,rfl⟩
  have Ym:Hid (if is=true then bt j.held j.next=some f else bt j.held j.next=none):=A? (by
   rw[<-his,<-hf,fK];cases bt j.held j.next<;>simp)
  unfold um at hS;rw[hf,his]at hS;have hS:Hid<|∀w',cE w' b lb hb j->aa9 b hb j.next f is w':=hS;clear hf his;refine dW (aa9 b hb j.next f is) (zcb [13,2,1]) (hS _<|hj2.below<|aQ U?) ?_;refine tR ?_;obtain⟨wd,hwd⟩:∃wd,w2.drew=wd:=⟨_,rfl⟩;have hbd:K! wr wd:=by rw[<-hwd];exact aQ hb2
  rw[hwd];clear hwd;have hjd:=hj.below hbd;have xH:=hbd.size;refine tK ?_;refine ai<|λK hK=>?_;go_wp2_with fail;obtain⟨w3,hw3⟩:∃w3,wd.alloc (.cells xaa 228)=w3:=⟨_,rfl⟩;have hB3:aO w3 wd.heap.size 228 xaa:=bcl;have hb3:K! wr w3:=by rw[<-hw3];exact ak hbd _
  rw[hw3];clear hw3;have hj3:=hj.below hb3;refine ah<|hK _ _ (hS _ hj3) ?_;clear hK K;refine tK ?_;obtain⟨B,EU⟩:∃B,wd.heap.size=B:=⟨_,rfl⟩;have hsz:wr.heap.size<=B:=B!;rw[EU]at hB3|-;clear EU;have a0:=hB3.cell 0;have a1:=hB3.cell 1;have a2:=hB3.cell 2;have a3:=hB3.cell 3;have z0:=hB3.frozen 0;have z1:=hB3.frozen 1;have z2:=hB3.frozen 2;have z3:=hB3.frozen 3;refine ai<|λK0 hK0=>?_;go_wp2_with fail;have fG:=(((hB3.set 0 (.bool f.b) rfl).set 1 (.bool f.e) rfl).set 2 (A! f.seq) rfl).set 3 (.string f.d) rfl;have xN:=hb3.trans<|(zY w3 B (.bool f.b) (.bool f.e) (A! f.seq) (.string f.d)).below hb3.size λk hk=>mbk;obtain⟨W,hW⟩:∃W,((((w3.setCell (B? B 0) (.bool f.b)).setCell (B? B 1) (.bool f.e)).setCell (B? B 2)<|A! f.seq).setCell (B? B 3) (.string f.d))=W:=⟨_,rfl⟩;rw[hW]at fG xN|-;clear hW;have Pr:=hj.below xN;refine ah<|hK0 _ _ (hS _ Pr) ?_;clear hK0 K0;refine tK ?_;refine aj ?_;clear a0 a1 a2 a3 z0 z1 z2 z3 hB3 hj3 hb3 hjd hbd hj2 hb2 hS xH;have x0:=fG.k 0;have x1:=fG.k 1;have x2:=fG.k 2;have x3:=fG.k 3;have Yn:=ho.then xN;have zu:=hown.only (S:=λ_=>False) (Only.aP xN)<|λk h=>h.elim;clear xN fG;cases is with
  |true=>
   have HFS:Hid<|bt j.held j.next=some f:=A? Ym;obtain⟨F,hF⟩:∃F,fU j f (fV j)=F:=⟨_,rfl⟩;have HFF:=A? hF;have HF2:=A?<|λw h=>HF f (fV j) w h;rw[hF]at HF2;obtain⟨j1,o1,on⟩:=F;cases on with
   |true=>
    have Lr:fA j=(j1,o1,true):=nbC;obtain⟨hr1,hr2,hr3⟩:=Mh hrun.out hinv.out Lr;have hr4:=A? hr1;have hr5:=A? hr2;clear hF hr1 Lr hr2 HFF HF HFS Ym;cases o1 with
    |some T=>
     simp only[ba5,Option.isSome_some]at HF2;have uS:Hid<|(out.length+1)*fB.bytes<=140737488355328:=A? (by show(out.length+1)*16<=_;omega)
     go_wp2_with(first
      |(go_at_call 237
        refine(HF2 _ Pr).mono ?_;rintro e w5 ⟨rfl,hj5,ho5⟩;have jT:=zu.only ho5 hlow)
      |(at_builtin
        refine dz fB rfl _ _ rfl _ out (bytesOf T) _ jT.1 (λk hk=>(jT.2 k hk).2) rfl _ rfl rfl uS I! λv' w6 hq6 ho6 hw6=>?_))
     have hsW:=ho.size;have hs5:=(Yn.trans ho5).size
     have iX:mN w6 w.heap.size v' (out++[bytesOf T]):=⟨hq6,λk hk=>by
      rcases hw6 k hk with e|e
      .have:=jT.2 k e;have:=ho6.size;omega
      .omega⟩
     have hj6:=hj5.only ho6 λi hi e=>by
      have h1:=hlow i hi;have h2:=(jT.2 i e).1;omega
     have ho8:=(Yn.trans ho5).and ho6 λk hk=>.inr (jT.2 k hk).1;have hm8:=DL hj6;go_roundw
     case rel=>exact⟨n-1,_,out++[bytesOf T],iX,hj6,ho8,hr5,hr4⟩
     case measure=>rw[hm8,hmu];exact hr3
    |none=>
     simp only[Option.getD_none,mgg]at HF2
     go_wp2_with(go_at_call 237
                 refine(HF2 _ Pr).mono ?_;rintro e w5 ⟨rfl,hj5,ho5⟩)
     have ho8:=Yn.trans ho5;have ny:=zu.only ho5 hlow;have hm8:=DL hj5;go_roundw
     case rel=>exact⟨n-1,_,out,ny,hj5,ho8,hr5,hr4⟩
     case measure=>rw[hm8,hmu];exact hr3
   |false=>
    have hEF:=S7 (by rw[hF]);rw[hF]at hEF;simp only[baZ]at hEF;obtain⟨rfl,rfl,-⟩:=hEF;have HST:Hid<|fA j1=mA j1:=A? nbC;clear hF HFF HF HFS Ym;obtain⟨j,rfl⟩:∃j,j=j1:=⟨_,rfl⟩;simp only[Option.getD_none,mgg]at HF2
    go_wp2_with(go_at_call 237
                refine(HF2 _ Pr).mono ?_;rintro e WX ⟨rfl,HJX,ho5⟩)
    have hoX:=Yn.trans ho5;have Pu:=zu.only ho5 hlow;clear ho5 Yn zu Pr HF2 ho hown;exact naZ
  |false=>
   have HFS:Hid<|bt j.held j.next=none:=A? Ym;clear Ym HF;by_cases BH:0<=fV j
   .have Lr:fA j=({j with next:=qM j (min (fV j+1)<|ji j)},none,true):=by unfold fA;rw[HFS.out];dsimp only;rw[G? BH]
    obtain⟨hr1,hr2,hr3⟩:=Mh hrun.out hinv.out Lr;have hr4:=A? hr1;have hr5:=A? hr2;obtain⟨ahd,hle2⟩:=wQ j;have hlt:=Gt j;obtain⟨hp1,hp2,-⟩:=eF j;have HJW:=A? Pr;have hwU:IntKind.i64.wrap (fV j+1)=fV j+1:=lY B! B!;clear hr1 Lr hr2 HFS Pr;go_wp2;refine dW (λ_=>True) (zcb [7,1,1,1,3,1]) (trivial) ?_;refine tK ?_;refine ai<|λK hK=>?_;go_wp2_with(go_at_call 239;refine(HLe _<|HJW.below<|aQ U?).mono ?_;rintro e w5 ⟨rfl,hb5⟩);have hb5':=(aQ<|P! W.heap.size W).trans hb5;refine ah<|hK _ _ trivial ?_;clear hK K hb5;refine tK ?_;refine ai<|λK hK=>?_;go_wp2_with(go_at_call 238;refine(HAt (min (fV j+1)<|ji j) _ (HJW.below hb5') B!).mono ?_;rintro e w6 ⟨rfl,hb6⟩);have hb6':=hb5'.trans<|hb6.mono hb5'.size;have hj6:=HJW.below hb6';have c1:=hj6.c1;have f1:=hj6.blk.frozen 1;refine ah<|hK _ _ trivial ?_;clear hK K hb6;refine tK ?_;refine ai<|λK hK=>?_;go_wp2_with fail;have hj7:=hj6.cells (hj6.blk.set 1 (A!<|qM j<|min (fV j+1)<|ji j) rfl) (ay _ _ _ _) (m':={j with next:=qM j (min (fV j+1)<|ji j)}) rfl rfl;have ho7:=(Yn.then hb6').trans (ay w6 b 1<|A!<|qM j<|min (fV j+1)<|ji j).j1;have xu:=(zu.only (S:=λ_=>False) (Only.aP hb6')<|λk h=>h.elim).only (ay w6 b 1<|A!<|qM j<|min (fV j+1)<|ji j).j1 hlow;refine ah<|hK _ _ trivial ?_;clear hK K;refine tK ?_;refine aj ?_;have hm8:=DL hj7;go_wp2;go_roundw
    case rel=>exact⟨n-1,_,out,xu,hj7,ho7,hr5,hr4⟩
    case measure=>rw[hm8,hmu];exact hr3
   .have HST:Hid<|fA j=mA j:=A? (by unfold fA;rw[HFS.out];dsimp only;rw[F! BH]);clear HFS;go_wp2_with fail;obtain⟨WX,rfl⟩:∃WX,WX=W:=⟨_,rfl⟩;have HJX:=Pr;have hoX:=Yn;have Pu:=zu;clear Yn zu Pr ho hown;exact naZ
end
theorem abc(i:Bool)(w:D!)(G:Nat->Tag)(t:Tag):G! E? 72 #[H? i,A! 128] w λe w'=>∃s,e=.returned (.tuple #[ptr s,A! 0])/\∃n,yJ w' n t s (Ce i 128)/\Step (λ_=>False) G w n w':=by
 have j:= @mcW E?;have r:=λw=>ru i w;let⟨Z,l⟩:=F?<|gh i;have c:=A? l;rw[l]at r;go_in;go_wp2_with fail;apply(r _).mono;rintro e w' ⟨rfl,rfl⟩;go_wp2;go_ret2;have hz1:(w'.alloc (.map #[] 0)).heap.size=w'.heap.size+1:=N!;have k:((w'.alloc (.map #[] 0)).alloc (.map #[] 0)).heap.size=w'.heap.size+2:=N!;have f:∀o,K! w'<|((w'.alloc (.map #[] 0)).alloc (.map #[] 0)).alloc o:=λo=>ak (ak R! _) _;have g:∀o,bp (((w'.alloc (.map #[] 0)).alloc (.map #[] 0)).alloc o) w'.heap.size []:=λo=>(bp.new w').below<|ak R! _
 have y:∀o,bp (((w'.alloc (.map #[] 0)).alloc (.map #[] 0)).alloc o) (w'.heap.size+1) []:=λo=>by
  exact nbp
 have d:=λu=>aO.new ((w'.alloc (.map #[] 0)).alloc (.map #[] 0)) 154 u;rw[k]at d;have v:=λo=>Step.rule (T:=λ_=>False) (G:=G) (Only.aP (S:=λ_=>False)<|f o) (λ_ _ h=>h.elim) λb=>if b=w'.heap.size then t++[0]else if b=w'.heap.size+1 then t++[1]else t
 refine⟨w'.heap.size+2,?_,_,⟨w'.heap.size,w'.heap.size+1,?_,?_,?_,?_,g _,y _⟩,v _⟩
 .simp[ptr]
 .have:=d #[A! Z,A! 0,H? i,A! 128,.map<|C! w'.heap.size,.map<|C!<|w'.heap.size+1,A! 0];rw[<-c.out]at this|-;exact this
 .show(if _ then _ else _)=_;rw[F! B!,F! B!,F! B!]
 .show(if _ then _ else _)=_;exact bbB
 .show(if _ then _ else _)=_;exact mbG
theorem C0(k:Int)(h:cE w b lb hb m)(u:m.links.length<=8):G! E? 235 #[ptr b,A! k] w (GH b lb hb (kH m k).1 w<|A! (kH m k).2):=by
 have c:=h.c4;have i:=h.CE k;have f:=h.acS;unfold kH;unfold ptr;by_cases r:k<0
 .rw[G? (.inl r)];exact mb4
 .cases o:au m.links k with
  |true=>
   rw[G? (.inr rfl)];rw[o]at i;exact mb4
  |false=>
   rw[F!<|by rintro(e|e);exact r e;cases e];rw[o]at i;by_cases t:8<=m.links.length
   .rw[G? t];exact mb4
   .rw[F! t];go_in;go_wp2_with(refine eD rfl _ _ _ rfl underlying91 underlying3 k (A!<|-1) h.ml rfl rfl rfl λw1 d s g=>?_);go_ret;exact⟨rfl,h.links (l:=bI m.links k<|-1) (by rw[<-jK (λ_ n=>Value.int .i64 n)];exact d) s,s.j2⟩
theorem Xv(k:Int)(h:cE w b lb hb m):G! E? 183 #[ptr b,A! k] w (GH b lb hb (Aw m k).1 w<|A! (Aw m k).2):=by
 have n:=h.c4;have o:=h.CE k;unfold Aw;unfold ptr;cases t:au m.links k with
 |true=>
  rw[G? rfl];rw[t]at o;go_in;go_wp2_with(refine fW rfl _ _ rfl underlying91 underlying3 k h.ml rfl rfl λw1 e i s=>?_);go_ret;exact⟨rfl,h.links (l:=dB m.links k) (by rw[fZ]at e;exact e) i,i.j2⟩
 |false=>
  rw[F! I!];rw[t]at o;exact mb4
theorem Pv{f:bF}{s:Bool}(h:(eU f s).2=0):0<=f.seq/\f.seq<gh s/\f.d.size<=2048:=by
 unfold eU at h;split at h
 .cases h
 .rename_i e;omega
def uq(m:aT)(k:Int)(f:bF):aT:={m with links:=bI m.links k f.seq}
def xB(m:aT)(f:bF):aT:=if au m.held f.seq=C?\/cG m/2<=gN m f.seq then{m with lost:=m.lost+1}else{m with held:=bI m.held f.seq f}
theorem adh{m:aT}{k:Int}{f:bF}(e:au m.links k=C?)(t:(eU f m.short).2=0):rT m k f=((sM (rL<|xB (uq m k f) f) (xB (uq m k f) f) []).1,(sM (rL<|xB (uq m k f) f) (xB (uq m k f) f) []).2,0):=by
 unfold rT;rw[F!<|by rw[e];decide,F!<|by rw[t];decide];rfl
theorem gH.linked(h:gH m)(k:Int){f:bF}(o:f.seq<gh m.short):gH<|uq m k f:=
 ⟨h.n0,h.n1,h.nd,h.ks,fL h.ln _ _,λx n=>by
   obtain⟨i,s⟩:=x;have t:=(eA<|fL h.ln k f.seq).2 n;rw[iQ]at t;by_cases e:i=k
   .rw[G? e]at t;simp at t;subst t;exact o
   .rw[F! e]at t;exact h.ls _ ((eA h.ln).1 t),h.m0⟩
theorem abd{e:Type}(l:KV e)(k:Int)(v:e):(bI l k v).length<=l.length+1:=by
 unfold bI;split<;>simp
structure abe(m:aT):Prop where
 g:gH m
 d:∀x∈m.held,x.2.d.size<=2048
 l0:0<=m.lost
 l1:m.lost+m.held.length+1<=1152921504606846976
 o:m.held.length+1<=4095
theorem abe.inv(h:abe m)(k:Int){f:bF}(r:(eU f m.short).2=0):Lx (xB (uq m k f) f) 0:=by
 let⟨n,o,s⟩:=Pv r;have t:=h.g.linked k o;have d:=h.l0;have g:=h.l1;have u:=h.o;unfold xB;split
 .exact⟨⟨t.n0,t.n1,t.nd,t.ks,t.ln,t.ls,t.m0⟩,h.d,by show 0<=m.lost+1;omega,by show m.lost+1+(m.held.length:Int)<=_;omega,by show 0+m.held.length<=_;omega⟩
 .have c:=abd m.held f.seq f
  have i:∀x∈bI m.held f.seq f,x=(f.seq,f)\/x∈m.held:=λx e=>by
   unfold bI at e;split at e
   .obtain⟨y,l,rfl⟩:=a!.1 e;split
    .exact .inl rfl
    .exact .inr l
   .rcases ό.1 e with e|e
    .exact .inr e
    .exact .inl<|j?.1 e
  refine⟨⟨t.n0,t.n1,fL t.nd _ _,λx e=>?_,t.ln,t.ls,t.m0⟩,λx e=>?_,d,?_,?_⟩
  .rcases i x e with rfl|e
   .exact⟨n,o⟩
   .exact t.ks x e
  .rcases i x e with rfl|e
   .exact s
   .exact h.d x e
  .show m.lost+((bI m.held f.seq f).length:Int)<=_;omega
  .show 0+(bI m.held f.seq f).length<=_;omega
theorem S9(s:Bool):4096<=gh s/\gh s<=16777216:=by unfold gh;split<;>omega
def C2(b lb hb:Nat)(r:aT×List ByteArray×Int)(w:D!)(e:Ending)(t:D!):Prop:=
 ∃v,e=.returned (.tuple #[v,A! r.2.2])/\mN t w.heap.size v r.2.1/\cE t b lb hb r.1/\Only (xM b lb hb) w t
theorem mN.nil(w:D!)(n:Nat):mN w n Q! []:=⟨jd.nil _ _,λk hk=>o!⟩
theorem Xw(k:Int)(f:bF)(h:cE w b lb hb m)(o:au m.links k=H!):G! E? 162 #[ptr b,A! k,uo f] w (C2 b lb hb (rT m k f) w):=by
 have i:rT m k f=(m,[],1902):=by unfold rT;rw[G? o]
 rw[i];have t:K! w<|w.alloc (.cells #[H? f.b,H? f.e,A! f.seq,D? f.d] 228):=R!;have e:=h.below t;have s:=e.c4;have n:=e.CE k;rw[o]at n;unfold ptr uo;go_wp2;go_ret2;exact⟨_,rfl,mN.nil _ _,e,Only.aP t⟩
def aeo(b F:Nat)(f:bF)(s:Bool)(e:D!):Prop:=L! e b 2 (H? s)/\L! e F 0 (H? f.b)/\L! e F 1 (H? f.e)/\J? e F 2 f.seq/\L! e F 3 (D? f.d)
def aep(b lb F:Nat)(f:bF)(e:D!):Prop:=L! e b 4 (.map<|C! lb)/\J? e F 2 f.seq
def aer(b hb F:Nat)(f g:bF)(t:Bool)(e:D!):Prop:=L! e b 5 (.map<|C! hb)/\J? e F 2 f.seq/\(Instr.lookup 152 (.map<|C! hb) (A! f.seq) C?).run E? e=.ok (.tuple #[.agg #[H? g.b,H? g.e,A! g.seq,D? g.d],H? t]) e
def UU(b F:Nat)(f:bF)(Z:Int)(e:D!):Prop:=J? e b 0 Z/\J? e F 2 f.seq
def aes(b hb F:Nat)(f:bF)(e:D!):Prop:=L! e b 5 (.map<|C! hb)/\L! e F 0 (H? f.b)/\L! e F 1 (H? f.e)/\J? e F 2 f.seq/\L! e F 3 (D? f.d)
def tF(w:D!)(F:Nat)(f:bF):Prop:=aO w F 228 #[H? f.b,H? f.e,A! f.seq,D? f.d]
theorem adi(k:Int)(f:bF)(h:cE w b lb hb m)(R:abe m)(hk:au m.links k=C?):G! E? 162 #[ptr b,A! k,uo f] w (C2 b lb hb (rT m k f) w):=by
 have A:E!<|(eU f m.short).2≠0->rT m k f=(m,[],1900):=A? λi=>by unfold rT;rw[F! bcD,G? i]
 have O:=A? λi=>adh (f:=f) hk i;have C:=A? λi=>R.inv k (f:=f) i;have V:=A? λi=>Pv (f:=f) (s:=m.short) i;have an:=A? λi=>R.g.linked k (f:=f) i;have da:=R.l0;have db:=R.l1;obtain⟨d5,bm⟩:=F?<|rT m k f;rw[bm]at A O|-;clear bm R;have X:K! w<|w.alloc (.cells #[H? f.b,H? f.e,A! f.seq,D? f.d] 228):=R!;have ax:tF (w.alloc (.cells #[H? f.b,H? f.e,A! f.seq,D? f.d] 228)) w.heap.size f:=aO.new w 228 #[H? f.b,H? f.e,A! f.seq,D? f.d];have c0:=A? h.low;obtain⟨bj,bo⟩:=F?<|w.alloc (.cells #[H? f.b,H? f.e,A! f.seq,D? f.d] 228);rw[bo]at X ax;have W:=h.below X;have ch:=W.c4;have bz:=W.CE k;rw[hk]at bz;have a7:=A? W;have ac:=A? ax;have a8:=A? X;have aa:E!<|∀t,cE t b lb hb m->tF t w.heap.size f->aeo b w.heap.size f m.short t:=A? λt h x=>⟨h.c2,x.cell 0,x.cell 1,x.cell 2,x.cell 3⟩;have ab:E!<|∀t m',cE t b lb hb m'->tF t w.heap.size f->aep b lb w.heap.size f t:=A? λt m' h x=>⟨h.c4,x.cell 2⟩;have ag:E!<|∀t m',cE t b lb hb m'->tF t w.heap.size f->UU b w.heap.size f (cG m') t:=A? λt m' h x=>⟨h.c0,x.cell 2⟩;have al:E!<|∀t m',cE t b lb hb m'->tF t w.heap.size f->aes b hb w.heap.size f t:=A? λt m' h x=>⟨h.c5,x.cell 0,x.cell 1,x.cell 2,x.cell 3⟩;have ap:E!<|∀w,G! E? 178 #[.agg #[H? f.b,H? f.e,A! f.seq,D? f.d],H? m.short] w (S? w (.tuple #[D?<|bytesOf (eU f m.short).1,A! (eU f m.short).2])):=A? λw=>OG f m.short w;obtain⟨c9,am⟩:=F?<|eU f m.short;have bd:=A? am;rw[am]at ap A O C V;clear h hk W ax am X;obtain⟨T,ci⟩:=c9;unfold ptr uo;go_in;go_wp2_with fail;clear bo bz ch;refine dW (aeo b w.heap.size f m.short) (zcb [5,1,5]) (aa _ (a7.below<|aQ U?)<|aO.below ac<|aQ U?) ?_;refine R? ?_;intro K o;go_wp2_with(go_at_call 178;apply(ap _).mono;rintro e b9 ⟨rfl,bs⟩);have F:=(aQ<|P! bj.heap.size bj).trans bs;have N:=a7.below F;have a4:tF b9 w.heap.size f:=aO.below ac F;have J:=a8.trans<|F.mono a8.size;apply O! o (aa _ N a4);clear o K;refine T? ?_;clear bs F ap a7 ac a8 aa;by_cases a2:ci=0
 .subst a2;obtain⟨d7,cj,d8⟩:=V rfl;have HE:=A?<|O rfl;have HI:=A?<|C rfl;have be:=A?<|an cj;clear A O C V an bd;go_wp2;refine dW (aep b lb w.heap.size f) (zcb [7,1]) (ab _ _ (N.below<|aQ U?)<|aO.below a4<|aQ U?) ?_;refine tK ?_;obtain⟨c7,b4⟩:=F? b9.drew;have a0:K! b9 c7:=by rw[<-b4];exact aQ U?
  rw[b4];clear b4;have b2:=N.below a0;have c4:tF c7 w.heap.size f:=aO.below a4 a0;have bv:=J.trans<|a0.mono J.size;clear a0 N a4 J;refine ai λK o=>?_;go_wp2_with(refine eD rfl _ _ _ rfl underlying91 underlying3 k (A! f.seq) b2.ml rfl rfl rfl λj h5 y c5=>?_);have z:cE j b lb hb<|uq m k f:=b2.links (l:=bI m.links k f.seq) nbJ y;have H:tF j w.heap.size f:=aO.only c4 y (by have:=c0 lb (.inr (.inl rfl));omega);have c1:=(Only.aP (S:=xM b lb hb) bv).trans y.j2;apply O! o (ab _ _ z H);clear o K;refine T? ?_;clear b2 c4 bv h5 y c5;obtain⟨M,ao⟩:=F?<|uq m k f;have ck:M.lost=m.lost/\M.held=m.held:=by rw[<-ao];exact⟨rfl,rfl⟩
  rw[ao]at z HE HI be;clear ao;go_wp2_with fail;have hS:E!<|∀t,cE t b lb hb M->tF t w.heap.size f->t.cell? (B? b 5)=C! (.map<|C! hb)/\t.cell? (B? w.heap.size 2)=N? f.seq/\(Instr.lookup 152 (.map<|C! hb) (A! f.seq) C?).run E? t=.ok (um M f.seq) t:=A? λt h x=>⟨h.c5,x.cell 2,h.um _⟩;obtain⟨g,i⟩:=F?<|(bt M.held f.seq).getD eZ;obtain⟨b8,b1⟩:=F?<|au M.held f.seq;unfold um at hS;rw[i,b1]at hS;have hS:E!<|∀t,cE t b lb hb M->tF t w.heap.size f->aer b hb w.heap.size f g b8 t:=hS;have bf:=A? b1;clear i b1;refine dW (aer b hb w.heap.size f g b8) (zcb [10,2,1]) (hS _ (z.below<|aQ U?)<|aO.below H<|aQ U?) ?_;refine tR ?_;obtain⟨a6,hwd⟩:=F? j.drew;have a1:K! j a6:=bbw;rw[hwd];clear hwd;have co:=z.below a1;have cz:=a1.size;refine R? ?_;intro K o;go_wp2_with fail;obtain⟨a5,a3⟩:=F?<|a6.alloc (.cells xaa 228);have r:aO a5 a6.heap.size 228 xaa:=by rw[<-a3];exact aO.new _ _ _
  have I:K! j a5:=by rw[<-a3];exact ak a1 _
  rw[a3];clear a3;refine O! o (hS _ (z.below I)<|aO.below H I) ?_;clear o K;refine tK ?_;obtain⟨B,bc⟩:=F? a6.heap.size;have hsz:j.heap.size<=B:=B!;rw[bc]at r|-;clear bc;have cb:=r.cell 0;have cc:=r.cell 1;have cd:=r.cell 2;have ce:=r.cell 3;have d0:=r.frozen 0;have d1:=r.frozen 1;have d2:=r.frozen 2;have d3:=r.frozen 3;refine ai λca bk=>?_;go_wp2_with fail;have D:=I.trans<|(zY a5 B (H? g.b) (H? g.e) (A! g.seq)<|D? g.d).below I.size λk hk=>mbk;obtain⟨L,c3⟩:=F?<|(((a5.setCell (B? B 0)<|H? g.b).setCell (B? B 1)<|H? g.e).setCell (B? B 2)<|A! g.seq).setCell (B? B 3)<|D? g.d;rw[c3]at D|-;clear c3;have u:=z.below D;have E:tF L w.heap.size f:=aO.below H D;have b3:=c1.then D;apply O! bk (hS _ u E);clear bk ca;refine T? ?_;clear cb cc cd ce d0 d1 d2 d3 r I co a1 D hS cz z H c1 hsz;have ar:=A? λw h hs=>ug (w:=w) (b:=b) (lb:=lb) (hb:=hb) (m:=M) f.seq h be hs;obtain⟨ae,av⟩:=F?<|gN M f.seq;have a9:=A? av;rw[av]at ar;clear av;have cp:0<=ae/\ae<cG M:=by rw[<-a9.out];exact lj M f.seq
  obtain⟨dd,cr⟩:=cp;obtain⟨Z,az⟩:=F?<|cG M;have br:=eF M;have ad:=A? az;have d9:f.seq<16777216+1:=by have:=(S9 m.short);omega
  rw[az]at cr br;clear az;obtain⟨de,df,-⟩:=br;have cs:IntKind.i64.wrap (Z/2)=Z/2:=lY B! B!;have cf:Z.tdiv 2=Z/2:=mec B!;have d6:IntKind.i64.wrap (Z.tdiv 2)=Z/2:=by rw[cf];exact cs
  have G:E!<|∀t,cE t b lb hb M->tF t w.heap.size f->UU b w.heap.size f Z t:=A? λt h x=>by rw[<-ad.out];exact ag t M h x
  have HLR:=A? λm' (hi:Lx m' 0) w h=>aba (w:=w) (b:=b) (lb:=lb) (hb:=hb) (m:=m') h hi;unfold ptr at HLR ar;obtain⟨Y,bl⟩:=ck;have d4:=A? bl;have c6:=u.c6;rw[Y]at c6;clear bl ag;have aet:E!<|∀t,cE t b lb hb M->t.cell? (B? b 6)=N? m.lost/\t.frozen? (B? b 6)=false:=A? λt h=>⟨by have:=h.c6;rw[Y]at this;exact this,h.blk.frozen 6⟩;have bi:=A? Y;clear c6 Y;cases b8 with
  |true=>
   have HH:E!<|xB M f={M with lost:=m.lost+1}:=A? (by unfold xB;rw[G? (.inl bf),bi.out]);go_wp2;refine dW (UU b w.heap.size f Z) (zca [0,2,4,6,8,10,12,16,18,20,22,24,26,15,28,30]) (G _ (u.below<|aQ U?)<|aO.below E<|aQ U?) ?_;refine R? ?_;intro K o;go_wp2_with fail;refine O! o (G _ (u.below<|aQ U?)<|aO.below E<|aQ U?) ?_;clear o K;refine T? ?_;obtain⟨w8,b5⟩:=F? L.drew;have q:K! L w8:=by rw[<-b5];exact aQ U?
   rw[b5];clear b5;have hj8:=u.below q;have ho8:=b3.then q;exact nc9
  |false=>
   go_wp2
   refine dW (UU b w.heap.size f Z) (zca [0,2,4,6,8,10,12,16,18,20,22,24,26,15,28,30]) (G _ (u.below<|aQ U?)<|aO.below E<|aQ U?) ?_;refine R? ?_;intro K o;go_wp2_with(go_at_call 199;refine(ar _ (u.below<|aQ U?) B!).mono ?_;rintro e w8 ⟨rfl,cn⟩);have q:=(aQ<|P! L.heap.size L).trans cn;have hj8:=u.below q;have b7:tF w8 w.heap.size f:=aO.below E q;have ho8:=b3.then q;apply O! o (G _ hj8 b7);clear o K;by_cases ba:Z/2<=ae
   .have HH:E!<|xB M f={M with lost:=m.lost+1}:=A? (by unfold xB;rw[G? (.inr<|by rw[ad.out,a9.out];exact ba),bi.out]);refine T? ?_;exact nc9
   .have HH:E!<|xB M f={M with held:=bI M.held f.seq f}:=A? (by unfold xB;rw[F!<|by rintro(e|e);(rw[bf.out]at e;cases e);(rw[ad.out,a9.out]at e;exact ba e)]);refine T? ?_;rw[HH.out]at HI HE;clear q u E b3 HH;go_wp2;refine dW (aes b hb w.heap.size f) (zcb [7,1]) (al _ _ (hj8.below<|aQ U?)<|aO.below b7<|aQ U?) ?_;refine tR ?_;obtain⟨c8,b6⟩:=F? w8.drew;have b0:K! w8 c8:=by rw[<-b6];exact aQ U?
    rw[b6];clear b6;have hj9:=hj8.below b0;have cy:tF c8 w.heap.size f:=aO.below b7 b0;have ho9:=ho8.then b0;refine R? ?_;intro K o;go_wp2_with(refine eD rfl _ _ _ rfl underlying152 underlying3 f.seq (yI f) hj9.mh rfl rfl rfl λj h5 y c5=>?_);have bx:=hj9.held (l:=bI M.held f.seq f) (by rw[<-jK (λ_ f=>yI f)];exact h5) y;have cv:tF j w.heap.size f:=aO.only cy y (by have:=c0 hb (.inr (.inr rfl));omega);have c2:=ho9.trans y.j3;apply O! o (al _ _ bx cv);clear o K;refine T? ?_;have hoz:=c2.size;go_wp2_with(go_at_call 200;apply(HLR _ HI _ bx).mono;rintro e w11 ⟨v,rfl,hown,hj11,ho11⟩;obtain⟨va,vc,rfl,-,-⟩:=hown.1.form);rw[HE.out];go_ret2;exact⟨_,rfl,⟨hown.1,λk hk=>⟨Z? hoz (hown.2 k hk).1,(hown.2 k hk).2⟩⟩,hj11,c2.trans ho11⟩
 .have HE:=A? (A a2);clear A O C V an bd ab ag al;have dh:=ϒ.2 a2;clear a2;go_wp2_with fail;rw[HE.out];go_ret2;exact⟨_,rfl,mN.nil _ _,N,Only.aP J⟩
theorem abf(k:Int)(f:bF)(h:cE w b lb hb m)(t:abe m):G! E? 162 #[ptr b,A! k,uo f] w (C2 b lb hb (rT m k f) w):=by
 cases e:au m.links k with
 |true=>exact adi k f h t e
 |false=>exact Xw k f h e
