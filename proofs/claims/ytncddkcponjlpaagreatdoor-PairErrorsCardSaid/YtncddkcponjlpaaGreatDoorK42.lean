/- Walks and plain laws. -/
import Derived.Test.YtncddkcponjlpaaGreatDoorK38
import Derived.Test.YtncddkcponjlpaaGreatDoorK39
import Derived.Test.YtncddkcponjlpaaGreatDoorK41
set_option linter.unusedVariables false
set_option linter.unusedSimpArgs false
set_option maxHeartbeats 0
set_option maxRecDepth 99999
namespace Go.Proofs.YtncddkcponjlpaaGreatDoor
open Go.RowKit Go.Proofs.Tryz
open Go renaming World→D!,Value→I?,Calls→G!,IntKind→ncy
open Go.RowKit renaming Hid→E!
open Decidable renaming decide→K?
open Option renaming some→C!,none→L?
open Bool renaming true→C?,false→H!
open Go.Proofs.Tryz renaming prog→E?
variable{P:Prop}
variable{w w1 w2 W:D!}{G G1 G2:Nat->Tag}{n ml:Int}{b sb N r a pb:Nat}{x:eY}{z z':PS}{m m':fD}{va vb:I?}
section
variable{W1:D!}{RB:Nat}{x0:eY}{m:aF}{id:Int}{A A':Int->Prop}{R:List Int}{a:Option Addr}
section
variable{f:PS->Int->PS}{da dr:Nat}
theorem oZ.start{P:PS->Prop}(h:nI G w n b sb x a R A z W)(e:∀k∈R,A k)(o:Fit N r z)(t:P z):oZ f da dr N r P G w n b sb x z a R 0 W:=
 ⟨z,h.less λk i=>e k<|List.mem_of_mem_drop i,o,t,rfl⟩
theorem oZ.done{P:PS->Prop}{j:Nat}(h:oZ f da dr N r P G w n b sb x z a R j W)(l:R.length=j):Ak G w n b sb (R.foldl f z) W/\Fit (N+da*j) (r+dr*j) (R.foldl f z)/\P (R.foldl f z):=by
 obtain⟨d,t,o,i,s⟩:=h;have e:R.foldl f z=d:=by rw[s,<-l,v!]
 rw[e];exact⟨t.any,o,i⟩
theorem oZ.cell{P:PS->Prop}{j:Nat}(h:oZ f da dr N r P G w n b sb x z a R j W)(i:j<R.length):∃e t,a=C! (B? e t)/\W.cell? (B? e<|t+j)=C! (ptr<|x.f R[j]):=by
 obtain⟨s,o,-⟩:=h;exact o.cell i
end
theorem Ak.row(h:Ak G w n b sb z W)(hf:Fit N r z)(d:N<=40000000000):G! E? 47 #[ptr b] W λe s=>∃t a c,e=.returned (J! a (dR z.1).length c)/\nI G w n b sb t a (dR z.1) (λk=>au z.1.links k=C?) z s:=by
 obtain⟨g,t,o,l⟩:=h;have f:z.1.links.length<=8:=bbi;apply(vR o.p hf.p f d).mono;rintro e s ⟨v,rfl,i,u⟩;obtain⟨a,c,rfl,-⟩:=qI i;have:=nI.new l o u i;rw[g!];exact⟨t,a,c,rfl,this⟩
def Qk(z:PS)(e:Int):PS:=({z.1 with random:=max e 0},z.2)
def EH(z:PS):PS:=if z.1.aX then jr z else z
def U'(z:PS):PS:=(yE z.1,z.2)
def abR(z:PS):PS:=({z.1 with now:=z.1.now+1},z.2)
def C9(f:PS->Int->PS)(z:PS):PS:=(dR z.1).foldl f z
theorem adP(z:PS)(e:Int):nu z e=abR (C9 iM<|U'<|EH<|C9 rV<|C9 rN<|vv<|Qk z e):=rfl
theorem X9(h:Fit N r z)(e:Int)(t:e<=4398046511104):Fit N r<|Qk z e:=⟨{h.p with r0:=(by show 0<=max e 0;omega),r1:=(by show max e 0<=_;omega)},h.s,h.la,h.po,h.l8⟩
structure eu(w:D!)(G:Nat->Tag)(n:Int)(b sb:Nat)(z:PS):Prop where
 p:∃x,cg w G n b x z.1/\x.s=L?
 s:aY w G [2] sb z.2
theorem Fo(h:n=0\/n=1):∀u,aq [2] u->¬aq [n] u:=λu t o=>by
 rcases baX t o with e|e<;>simp at e<;>rcases h with rfl|rfl<;>omega
theorem abS(h:eu w G n b sb z)(t:n=0\/n=1)(e:Int):Ak G w n b sb (Qk z e)<|(w.setCell (B? b 27)<|ptr sb).setCell (B? b 26)<|A!<|max e 0:=by
 obtain⟨⟨x,o,g⟩,d⟩:=h;have l:Only (λk=>k=b) w<|(w.setCell (B? b 27)<|ptr sb).setCell (B? b 26)<|A!<|max e 0:=(ay w b 27 _).trans<|ay _ b 26 _;let⟨f,i⟩:=o.own (m':=(Qk z e).1) (s:=C! sb) l ((o.blk.set 27 _ rfl).set 26 _ rfl) rfl rfl rfl rfl rfl rfl rfl rfl;exact⟨_,_,⟨f,d.step i<|Fo t,rfl,t⟩,i.mono λu c=>.inl c⟩
theorem adQ(h:Ak G w n b sb z W):∃t,eu ((W.setCell (B? b 27) (.pointer L?)).setCell (B? b 25)<|A!<|z.1.now+1) t n b sb (abR z)/\Step (bG n) G w t ((W.setCell (B? b 27) (.pointer L?)).setCell (B? b 25)<|A!<|z.1.now+1):=by
 obtain⟨f,x,e,i⟩:=h;have l:Only (λk=>k=b) W<|(W.setCell (B? b 27) (.pointer L?)).setCell (B? b 25)<|A!<|z.1.now+1:=(ay W b 27 _).trans<|ay _ b 25 _;let⟨c,o⟩:=e.p.own (m':=(abR z).1) (s:=L?) l ((e.p.blk.set 27 _ rfl).set 25 _ rfl) rfl rfl rfl rfl rfl rfl rfl rfl;exact⟨_,⟨⟨_,c,rfl⟩,e.s.step o<|Fo e.n01⟩,i.trans<|o.mono λu d=>.inl d⟩
theorem eu.cells(h:eu w G n b sb z):w.cell? (B? b 27)=C! (.pointer L?)/\w.cell? (B? b 26)=N? z.1.random/\w.frozen? (B? b 27)=H!/\w.frozen? (B? b 26)=H!/\b<w.heap.size:=by
 obtain⟨⟨x,l,d⟩,u⟩:=h;have e:=l.blk.k 27;rw[d]at e;exact⟨e,l.blk.cell 26,l.blk.frozen 27,l.blk.frozen 26,l.blk.lt⟩
theorem Ak.ends(h:Ak G w n b sb z W):W.cell? (B? b 27)=C! (ptr sb)/\W.cell? (B? b 25)=N? z.1.now/\W.cell? (B? b 19)=C! (H? z.1.aX)/\W.frozen? (B? b 27)=H!/\W.frozen? (B? b 25)=H!/\b<W.heap.size:=by
 obtain⟨e,-,-,-⟩:=h.cells;obtain⟨o,x,t,-⟩:=h;exact⟨e,t.p.blk.cell 25,t.p.blk.cell 19,t.p.blk.frozen 27,t.p.blk.frozen 25,t.p.blk.lt⟩
theorem KD(Q:Int)(h:eu w G n b sb z)(b4:n=0\/n=1)(Z:Env w G ml)(bx:Fit N 0 z)(ci:N+600000<=40000000000)(c3:Q<=4398046511104):
 G! E? 89 #[ptr b,ptr sb,A! Q] w λe a8=>e=.returned (A! 0)/\∃ap,eu a8 ap n b sb (nu z Q)/\Step (bG n) G w ap a8:=by
 have ar:=A?<|abS h b4 Q;have am:=X9 bx Q c3;have L:=A?<|adP z Q;let⟨bi,ce,bj,ch,b2⟩:=h.cells;generalize Qk z Q=ag at ar am L;have ao:=A? λO x' W (c:aS W O n b sb x' ag) (l:Env W O ml)=>X8 c l am B!;have ae:=A?<|look_ok am;generalize vv ag=u at ao ae L
 have bd:E!<|∀W,Ak G w n b sb ag W->G! E? 95 #[ptr b] W λe a8=>e=.returned (.tuple #[])/\Ak G w n b sb u a8:=A? λW d=>by
  obtain⟨O,x',c,l⟩:=d;refine(ao O x' W c<|Z.uM b4 l).mono ?_;rintro e a8 ⟨rfl,ba,cb,c7,c8⟩;exact⟨rfl,ba,cb,c7,l.trans c8⟩
 unfold ptr at*
 go_in
 go_upto_region 4 with fail
 have a0:=ae.1;have c4:=ae.2.2.1;go_upto_region 5 with(go_at_call 95;refine M! (bd _ ar) λw1 c1=>?_)
 obtain⟨av,bl⟩:∃M:Nat,N+8=M:=⟨_,rfl⟩;obtain⟨b8,br⟩:∃s:Nat,0+16=s:=⟨_,rfl⟩;rw[bl,br]at a0;have S:=A?<|wT a0.p.nd;have K:=A?<|c1.row a0 B!
 have I:(dR u.1).length<=8:=by
  rw[j8];have:=a0.l8;have:=a0.p.cfg.p8;omega
 have H:=A? λW a x' (d:nI G w n b sb x' a (dR u.1) (λk=>au u.1.links k=C?) u W)=>oZ.start (f:=rN) (da:=71680) (dr:=215040) (P:=Sub) d (λk a5=>nW a5) a0 c4;have D:E!<|C9 rN u=(dR u.1).foldl rN u:=A? rfl;let⟨R,al⟩:=F?<|dR u.1;rw[al]at S K I H D;unfold ptr at*
 go_wp2_with(go_at_call 47;apply K.mono;rintro e w2 ⟨x',a,b1,rfl,a6⟩);have a2:=A?<|H _ a x' a6;have Ms:=A? λW j (Y:j<R.length) (d:oZ rN 71680 215040 av b8 Sub G w n b sb x' u a R j W)=>oZ.next (F:=96) (rv:=.tuple #[]) d Z S Y (λz' t q o=>⟨Fj t q o,(Fj t q o).sub q⟩)<|λz' t q o O x' c l=>XZ c l t q B! B! o;let⟨NL,V⟩:=F? R.length;rw[V]at I|-;have HN:=A? V;go_loopw[33] (λi wr=>∃(j:Nat),j<=NL/\i=A! j/\E! (oZ rN 71680 215040 av b8 Sub G w n b sb x' u a R j wr)) (λi _=>NL-(intOf i).toNat)
 case atStart=>exact⟨0,S! _,rfl,a2⟩
 case round=>
  obtain⟨j,Y,rfl,HR⟩:=hrel;by_cases hlt:j<NL
  .have uL:j<R.length:=Δ;exact mfG
  .obtain rfl:j=NL:=B!;let⟨ab,E,an⟩:=HR.done HN;rw[<-D.out]at ab E an;generalize C9 rN u=y at ab E an L;replace E:=E.mono (M:=N+573448) (s:=1720336) B! B!;let⟨w1,c6⟩:=F? wr;rw[c6]at ab|-;go_upto_region 10 with fail
   obtain⟨M2,bm⟩:∃M:Nat,N+573448=M:=⟨_,rfl⟩;obtain⟨s2,bs⟩:∃s:Nat,1720336=s:=⟨_,rfl⟩;rw[bm,bs]at E;have S:=A?<|wT E.p.nd;have K:=A?<|ab.row E B!
   have I:(dR y.1).length<=8:=by
    rw[j8];have:=E.l8;have:=E.p.cfg.p8;omega
   have H:=A? λW a x' (d:nI G w n b sb x' a (dR y.1) (λk=>au y.1.links k=C?) y W)=>oZ.start (f:=rV) (da:=2) (dr:=1) (P:=Sub) d (λk a5=>nW a5) E an;have D:E!<|C9 rV y=(dR y.1).foldl rV y:=A? rfl;let⟨R,al⟩:=F?<|dR y.1;rw[al]at S K I H D;unfold ptr at*
   go_wp2_with(go_at_call 47;apply K.mono;rintro e w2 ⟨x',a,b1,rfl,a6⟩);have a2:=A?<|H _ a x' a6;have Ms:=A? λW j (Y:j<R.length) (d:oZ rV 2 1 M2 s2 Sub G w n b sb x' y a R j W)=>oZ.next (F:=97) (rv:=.tuple #[]) d Z S Y (λz' t q o=>⟨Mc t o,(Mc t o).sub q⟩)<|λz' t q o O x' c l=>abN c l t B! B! o;let⟨NL,V⟩:=F? R.length;rw[V]at I|-;have HN:=A? V;go_loopw[44] (λi wr=>∃(j:Nat),j<=NL/\i=A! j/\E! (oZ rV 2 1 M2 s2 Sub G w n b sb x' y a R j wr)) (λi _=>NL-(intOf i).toNat)
   case atStart=>exact⟨0,S! _,rfl,a2⟩
   case round=>
    obtain⟨j,Y,rfl,HR⟩:=hrel;by_cases hlt:j<NL
    .have uL:j<R.length:=Δ;exact mfG
    .obtain rfl:j=NL:=B!;let⟨a1,C,J⟩:=HR.done HN;rw[<-D.out]at a1 C J;generalize C9 rV y=v at a1 C J L;replace C:=C.mono (M:=N+573464) (s:=1720344) B! B!;generalize wr=w1 at a1|-;have ad:=(DJ C J).sub J;have a4:=(DJ C J).fit;have cc:=A?<|Ak.turn a1 Z<|λO x' c l=>Qe c l C J B! B!;obtain⟨-,-,be,-,-,b2⟩:=a1.ends;have a9:E!<|EH v=if v.1.aX then jr v else v:=A? rfl
     have bc:E! (Fit (N+573465) 1720346 (EH v)/\Sub (EH v)):=A? (by
      rw[a9.out];split
      .exact⟨a4,ad⟩
      .exact⟨C.mono B! B!,J⟩)
     generalize v.1.aX=b9 at be a9;unfold ptr at*
     go_upto_region 15 with fail
     go_upto_if 55 with fail
     go_cut[]from 56 to 57 (λca=>E!<|Ak G w n b sb (EH v) ca)
     case first=>
      cases b9 with
      |true=>
       go_wp2_with fail;refine M! cc λc9 bk=>?_;have HR:E!<|Ak G w n b sb (EH v) c9:=A? (by rw[a9.out,G? trivial];exact bk);go_wp2;go_meet
       case rel=>exact HR
      |false=>
       have HR:E!<|Ak G w n b sb (EH v) w1:=A? (by rw[a9.out,F! I!];exact a1);go_wp2;go_meet
       case rel=>exact HR
     case rest=>
      have b5:=hcut.out;let⟨a4,ad⟩:=bc.out;generalize EH v=a3 at b5 a4 ad L;have a7:=UQ a4;have X:Fit (N+573465) 1720410<|U' a3:=a7.fit;have b6:Sub<|U' a3:=a7.sub ad;have az:=A?<|Ak.turn b5 Z<|λO x' c l=>X6 c l a4 B! B!;let⟨g,b3⟩:=F?<|U' a3;rw[show(yE a3.1,a3.2)=g from b3]at az;rw[b3]at X b6 L;unfold ptr at*
      go_upto_region 18 with(go_at_call 99;refine M! az λw1 c2=>?_)
      obtain⟨ax,bo⟩:∃M:Nat,N+573465=M:=⟨_,rfl⟩;obtain⟨a7,bv⟩:∃s:Nat,1720410=s:=⟨_,rfl⟩;rw[bo,bv]at X;have S:=A?<|wT X.p.nd;have K:=A?<|c2.row X B!
      have I:(dR g.1).length<=8:=by
       rw[j8];have:=X.l8;have:=X.p.cfg.p8;omega
      have H:=A? λW a x' (d:nI G w n b sb x' a (dR g.1) (λk=>au g.1.links k=C?) g W)=>oZ.start (f:=iM) (da:=2) (dr:=1) (P:=Sub) d (λk a5=>nW a5) X b6;have D:E!<|C9 iM g=(dR g.1).foldl iM g:=A? rfl;generalize dR g.1=R at S K I H D;unfold ptr at*
      go_wp2_with(go_at_call 47;apply K.mono;rintro e w2 ⟨x',a,b1,rfl,a6⟩);have a2:=A?<|H _ a x' a6;have Ms:=A? λW j (Y:j<R.length) (d:oZ iM 2 1 ax a7 Sub G w n b sb x' g a R j W)=>oZ.next (F:=100) (rv:=.tuple #[]) d Z S Y (λz' t q o=>⟨(Ho t o).1.some _,(Ho t o).1.sub q⟩)<|λz' t q o O x' c l=>TV c l t B! B! o;let⟨NL,V⟩:=F? R.length;rw[V]at I|-;have HN:=A? V;go_loopw[63] (λi wr=>∃(j:Nat),j<=NL/\i=A! j/\E! (oZ iM 2 1 ax a7 Sub G w n b sb x' g a R j wr)) (λi _=>NL-(intOf i).toNat)
      case atStart=>exact⟨0,S! _,rfl,a2⟩
      case round=>
       obtain⟨j,Y,rfl,HR⟩:=hrel;by_cases hlt:j<NL
       .have uL:j<R.length:=Δ;exact mfG
       .obtain rfl:j=NL:=B!;let⟨ac,aa,c5⟩:=HR.done HN;rw[<-D.out]at ac aa c5;generalize C9 iM g=b0 at ac aa L;have bz:=aa.p.n0
        have c0:b0.1.now<=100000000000:=by
         have:=aa.p.n1;omega
        obtain⟨bi,bf,-,bj,cf,b2⟩:=ac.ends;have b7:=A?<|adQ ac;generalize b0.1.now=cd at bz c0 bf b7;unfold ptr at*
        go_wp2
        go_ret;rw[L.out];exact⟨rfl,b7⟩
end
theorem eu.step{T:Tag->Prop}(h:eu w G n b sb z)(e:Step T G w G1 w1)(t:∀u,aq [n] u->¬T u)(o:∀u,aq [2] u->¬T u):eu w1 G1 n b sb z:=by
 obtain⟨⟨x,i,l⟩,s⟩:=h;exact⟨⟨x,i.step e t,l⟩,s.step e o⟩
theorem iq.lens{q:bh}(h:iq N q)(i:N<=40000000000):q.bB.length<=1099511627776/\q.opn.length<=1099511627776:=by
 have e:=h.acP;have t:=h.ck;have o:=h.c0;omega
theorem eu.below(h:eu w G n b sb z)(o:K! w w1):eu w1 (grow G w.heap.size free) n b sb z/\Step (bG n) G w (grow G w.heap.size free) w1:=
 ⟨h.step (Step.below (T:=λ_=>False) o) (λ_ _ e=>e) (λ_ _ e=>e),(Step.below (T:=λ_=>False) o).mono λ_ e=>e.elim⟩
def Fp(n:Int)(b sb:Nat)(G:Nat->Tag)(w:D!)(z':PS)(v:I?)(e:Ending)(o:D!):Prop:=e=.returned v/\∃t,eu o t n b sb z'/\Step (bG n) G w t o
theorem EI(h:eu w G n b sb z):G! E? 52 #[ptr b] w (T! w<|A! z.1.load):=by
 obtain⟨⟨x,l,-⟩,-⟩:=h;have d:=l.blk.k 24;unfold ptr;exact d?
theorem Ql(h:eu w G n b sb z)(g:iq N z.1.queue)(u:N<=40000000000):G! E? 24 #[ptr b] w (S? w<|A!<|fN z.1.queue):=by
 obtain⟨⟨x,l,-⟩,-⟩:=h;have y:=l.blk.k 20;have d:=A?<|OA l.q<|g.lens u;unfold ptr at*
 go_in
 go_wp2_with(go_at_call 49;refine M! d λw2 f=>?_);go_ret;exact⟨rfl,f⟩
theorem KE(v:Int)(h:eu w G n b sb z)(O:n=0\/n=1):G! E? 80 #[ptr b,A! v] w (Fp n b sb G w ((jD z.1 v).1,z.2)<|A! (jD z.1 v).2):=by
 have H:=A? h;obtain⟨⟨x,d,R⟩,I⟩:=h;have D:=d.blk.k 24;have C:=d.blk.frozen 24;have f:E!<|jD z.1 v=if v<0\/1048576<v then(z.1,2600)else({z.1 with load:=v},0):=A? rfl
 have k:E! (∃g,eu (w.setCell (B? b 24) (A! v)) g n b sb ({z.1 with load:=v},z.2)/\Step (bG n) G w g (w.setCell (B? b 24) (A! v))):=A? (by
  let⟨L,y⟩:=d.own (m':={z.1 with load:=v}) (s:=x.s) (ay w b 24<|A! v) (d.blk.set 24 _ rfl) rfl rfl rfl rfl rfl rfl rfl rfl;exact⟨_,⟨⟨_,L,R⟩,I.step y (Fo O)⟩,y.mono λu S=>.inl S⟩)
 unfold ptr;by_cases j:v<0
 .have l:E!<|jD z.1 v=(z.1,2600):=A? (by rw[f.out,G? (.inl j)]);go_wp2;go_ret;rw[l.out];exact⟨rfl,G,H,Step.refl _ _ _⟩
 .by_cases A:1048576<v
  .have l:E!<|jD z.1 v=(z.1,2600):=A? (by rw[f.out,G? (.inr A)]);have E:0<=v:=B!;go_wp2;go_ret;rw[l.out];exact⟨rfl,G,H,Step.refl _ _ _⟩
  .have l:E!<|jD z.1 v=({z.1 with load:=v},0):=A? (by rw[f.out,F! B!]);have E:0<=v:=B!;have M:v<=1048576:=B!;go_wp2;go_ret;rw[l.out];exact⟨rfl,k⟩
theorem EJ(s:ByteArray)(h:eu w G n b sb z)(hn:n=0\/n=1)(O:Fit N r z)(V:N<=40000000000):G! E? 77 #[ptr b,D? s] w (Fp n b sb G w ((bE z.1 s).1,z.2)<|A! (bE z.1 s).2):=by
 have D:=A? λW (y:eu W G n b sb z)=>Ql y O.p.q V
 have Y:E!<|∀W f,eu W f n b sb z->W.cell? (B? b 4)=N? z.1.c.cv/\b<W.heap.size:=A? λW f y=>by
  obtain⟨⟨x,i,-⟩,-⟩:=y;exact⟨i.blk.cell 4,i.blk.lt⟩
 have E:=A?<|h.step (aB (λ_=>False) G w) (λ_ _ e=>e)<|λ_ _ e=>e
 have al:E!<|∀W f,eu W f n b sb z->∃H,W.cell? (B? b 20)=C! (ptr H)/\b<W.heap.size/\G! E? 90 #[ptr H,D? s] W (Fp n b sb f W ({z.1 with queue:=(ig z.1.queue s).1},z.2)<|A! (ig z.1.queue s).2):=A? λW f y=>by
  obtain⟨⟨x,i,ae⟩,hs⟩:=y;refine⟨x.q,i.blk.cell 20,i.blk.lt,(OC s i.q O.p.q.g<|O.p.q.lens V).mono ?_⟩;rintro e g ⟨rfl,a0,ag,R⟩;exact⟨rfl,a0,⟨⟨x,i.queue R ag,ae⟩,hs.step R λu I ad=>Fo hn u I<|(aq.app [n] [1]).trans ad⟩,R.mono λu I=>.inl<|(aq.app [n] [1]).trans I⟩
 have o:E!<|bE z.1 s=if s.size<1\/512<s.size then(z.1,2602)else if z.1.c.cv<=fN z.1.queue then(z.1,2601)else({z.1 with queue:=(ig z.1.queue s).1},(ig z.1.queue s).2):=A? rfl
 let⟨A,ao⟩:=Y _ _ E;let⟨q,a6⟩:=F? z.1.c.cv;let⟨F,a5⟩:=F?<|fN z.1.queue;let⟨j,M⟩:=F? s.size;have JK:=A? M;rw[a6]at A o Y;rw[a5]at D o;rw[M]at o;unfold ptr at*
 by_cases a2:j<1
 .have t:E!<|bE z.1 s=(z.1,2602):=A? (by rw[o.out,G? (.inl a2)]);have av:s.size=0:=mb5;go_wp2;go_ret;rw[t.out];exact⟨rfl,G,h,Step.refl _ _ _⟩
 .by_cases a3:512<j
  .have t:E!<|bE z.1 s=(z.1,2602):=A? (by rw[o.out,G? (.inr a3)]);have a9:512<s.size:=mb5;go_wp2;go_ret;rw[t.out];exact⟨rfl,G,h,Step.refl _ _ _⟩
  .have a9:1<=s.size:=mb5;have ax:s.size<=512:=mb5;have L:E!<|¬(j<1\/512<j):=A? B!;have a1:=A?<|D _ E;have hS:E!<|∀g,Below w.drew.heap.size w.drew g->J? g b 4 q:=A? λg a7=>aw a7 A;go_wp2;refine dW (λg=>J? g b 4 q) (zca [0,4,6,8,10,12,3,14,16]) (A) ?_;refine R? ?_;intro am a4;go_wp2_with(go_at_call 24;refine M! a1 λw2 X=>?_);apply O! a4 (hS _ X);refine T? ?_;let⟨K,aa⟩:=E.below X;have C:=A?<|(aB (bG n) G w).trans aa;let⟨H,an,ar,ac⟩:=al _ _ K;have J:=A? ac;unfold ptr Fp at*
   by_cases B:q<=F
   .have t:E!<|bE z.1 s=(z.1,2601):=A? (by rw[o.out,F! L.out,G? B]);go_wp2;go_ret;rw[t.out];exact⟨rfl,_,K,C⟩
   .have t:E!<|bE z.1 s=({z.1 with queue:=(ig z.1.queue s).1},(ig z.1.queue s).2):=A? (by rw[o.out,F! L.out,F! B]);have ap:F<q:=B!;go_wp2_with(go_at_call 90;apply J.mono;rintro e az ⟨rfl,Z,a8,ab⟩);go_ret;rw[t.out];exact⟨rfl,Z,a8,C.trans ab⟩
structure bQ(w:D!)(G:Nat->Tag)(pb a b sb:Nat)(va vb:I?)(m:fD):Prop where
 blk:aO w pb 76 #[ptr a,ptr b,ptr sb,A! m.time,A! m.random,va,vb]
 tag:G pb=[3]
 pa:∃x,cg w G 0 a x m.a/\x.s=L?
 pb:∃x,cg w G 1 b x m.b/\x.s=L?
 s:aY w G [2] sb m.s
 ta:oy fB G [3,0] w va m.cr
 tb:oy fB G [3,1] w vb m.cH
def iK:Tag->Prop:=λu=>aq [0] u\/aq [1] u\/aq [2] u\/aq [3] u
theorem sE{n:Int}(e:n=0\/n=1)(u:Tag)(h:bG n u):iK u:=by
 rcases h with h|h
 .rcases e with rfl|rfl
  .exact .inl h
  .exact .inr (.inl h)
 .exact .inr (.inr (.inl h))
theorem ou{a b:Int}(t:a≠b){s u:Tag}(h1:aq (a::s) u):¬aq [b] u:=λh2=>by
 exact mdr
theorem bQ.step{T:Tag->Prop}(h:bQ w G pb a b sb va vb m)(e:Step T G w G1 w1)(t:∀u,iK u->¬T u):bQ w1 G1 pb a b sb va vb m:=by
 obtain⟨i,s,⟨x,l,d⟩,⟨y,c,f⟩,g,v,k⟩:=h
 exact⟨i.step e (by rw[s];exact t _ (.inr (.inr (.inr (aq.self _))))),(e.old _ i.lt).trans s,⟨x,l.step e λu o=>t u (.inl o),d⟩,⟨y,c.step e λu o=>t u (.inr (.inl o)),f⟩,g.step e λu o=>t u (.inr (.inr (.inl o))),
  v.step e (t _ (.inr (.inr (.inr (aq.app [3] [0]))))),k.step e (t _ (.inr (.inr (.inr (aq.app [3] [1])))))⟩
theorem bQ.adV(h:bQ w G pb a b sb va vb m):eu w G 0 a sb (m.a,m.s):=⟨h.pa,h.s⟩
theorem bQ.adW(h:bQ w G pb a b sb va vb m):eu w G 1 b sb (m.b,m.s):=⟨h.pb,h.s⟩
theorem bQ.abW{z':PS}(h:bQ w G pb a b sb va vb m)(l:eu w1 G1 0 a sb z')(t:Step (bG 0) G w G1 w1):bQ w1 G1 pb a b sb va vb {m with a:=z'.1,s:=z'.2}:=by
 obtain⟨i,h2,-,⟨y,f,g⟩,-,v,k⟩:=h;have hn:∀c s u,c≠0->c≠2->aq (c::s) u->¬bG 0 u:=λc s u d h2 o e=>e.elim (ou d o)<|ou h2 o;exact⟨i.step t ncB,(t.old _ i.lt).trans h2,l.p,⟨y,f.step t λu o=>hn 1 [] u I! I! o,g⟩,l.s,v.step t<|hn 3 [0] _ I! I!<|aq.self _,k.step t<|hn 3 [1] _ I! I!<|aq.self _⟩
theorem bQ.abX{z':PS}(h:bQ w G pb a b sb va vb m)(l:eu w1 G1 1 b sb z')(t:Step (bG 1) G w G1 w1):bQ w1 G1 pb a b sb va vb {m with b:=z'.1,s:=z'.2}:=by
 obtain⟨i,h2,⟨y,f,g⟩,-,-,v,k⟩:=h;have hn:∀c s u,c≠1->c≠2->aq (c::s) u->¬bG 1 u:=λc s u d h2 o e=>e.elim (ou d o)<|ou h2 o;exact⟨i.step t ncB,(t.old _ i.lt).trans h2,⟨y,f.step t λu o=>hn 0 [] u I! I! o,g⟩,l.p,l.s,v.step t<|hn 3 [0] _ I! I!<|aq.self _,k.step t<|hn 3 [1] _ I! I!<|aq.self _⟩
theorem bQ.Qp{d:aU}(h:bQ w G pb a b sb va vb m)(E:aY w1 G1 [2] sb d)(e:Step (aq [2]) G w G1 w1):bQ w1 G1 pb a b sb va vb {m with s:=d}:=by
 obtain⟨l,i,⟨x,f,g⟩,⟨y,v,k⟩,-,j,q⟩:=h;have t:∀c s u,c≠2->aq (c::s) u->¬aq [2] u:=λc s u i o=>ou i o;exact⟨l.step e<|by rw[i];exact t 3 [] _ I!<|aq.self _,(e.old _ l.lt).trans i,⟨x,f.step e λu o=>t 0 [] u I! o,g⟩,⟨y,v.step e λu o=>t 1 [] u I! o,k⟩,E,j.step e<|t 3 [0] _ I!<|aq.self _,q.step e<|t 3 [1] _ I!<|aq.self _⟩
theorem bQ.own{t r:Int}(h:bQ w G pb a b sb va vb m)(L:Only (λk=>k=pb) w w1)(R:aO w1 pb 76 #[ptr a,ptr b,ptr sb,A! t,A! r,va,vb]):
 bQ w1 (grow G w.heap.size free) pb a b sb va vb {m with time:=t,random:=r}/\Step iK G w (grow G w.heap.size free) w1:=by
 have o:Step (λu=>u=[3]) G w (grow G w.heap.size free) w1:=Step.of L (λk _ e=>Ψ) free;obtain⟨f,g,⟨x,j,q⟩,⟨y,E,A⟩,O,I,S⟩:=h
 have d:∀c s u,c≠3->aq (c::s) u->¬(λu=>u=[3]) u:=λc s u H l e=>by
  rw[show u=[3]from e]at l;exact ou H l<|aq.self _
 exact⟨⟨R,(o.old _ f.lt).trans g,⟨x,j.step o λu=>d 0 [] u I!,q⟩,⟨y,E.step o λu=>d 1 [] u I!,A⟩,O.step o λu=>d 2 [] u I!,I.step o (λe=>ba7),S.step o<|λe=>ba7⟩,o.mono λu l=>by rw[l];exact .inr (.inr (.inr<|aq.self _))⟩
def T9(G:Nat->Tag)(w:D!)(pb:Nat)(m:fD)(W:D!):Prop:=∃e a b sb va vb,bQ W e pb a b sb va vb m/\Step iK G w e W
theorem DU:¬iK free:=λe=>by
 rcases e with e|e|e|e<;>exact aJ N! e
theorem T9.drew(h:T9 G w pb m W):T9 G w pb m W.drew:=by
 obtain⟨t,a,b,sb,va,vb,o,i⟩:=h;exact⟨t,a,b,sb,va,vb,o.step (aB (λ_=>False) t W) (λ_ _ e=>e),i.trans<|aB _ _ _⟩
theorem Vc(a b:Nat)(w:D!):(Instr.index 73 (.agg #[P? a,P? b])<|A! 0).run E? w=.ok (P? a) w:=M?
theorem Vd(a b:Nat)(w:D!):(Instr.index 73 (.agg #[P? a,P? b])<|A! 1).run E? w=.ok (P? b) w:=M?
def kR(m:fD)(j:Nat):fD:=
 if j=0 then m else if j=1 then{m with a:=(nu (m.a,m.s)<|wrap64<|m.random+m.time).1,s:=(nu (m.a,m.s)<|wrap64<|m.random+m.time).2}
 else{m with a:=(nu (m.a,m.s)<|wrap64<|m.random+m.time).1,b:=(nu (m.b,(nu (m.a,m.s)<|wrap64<|m.random+m.time).2)<|wrap64<|m.random+m.time).1,s:=(nu (m.b,(nu (m.a,m.s)<|wrap64<|m.random+m.time).2)<|wrap64<|m.random+m.time).2}
theorem abY(h:cO N m)(u:m.time+1<=1073741824):Fit (N+600000) 0 (m.b,(nu (m.a,m.s)<|m.random+m.time).2):=by
 have l:=h.t0;have d:=h.r0;have c:=h.r1;let⟨e,t,i,o⟩:=Me h.a (m.random+m.time) B!;generalize nu (m.a,m.s) (m.random+m.time)=x at e t i o|-;simp only at t o;exact⟨(h.b.mono (M:=N+600000) (s:=0) B!<|Y? 0).p,e.s,o? h.b.la o,by rw[e.po,t.c];exact h.cc▸rfl,h.b.l8⟩
def bL(G:Nat->Tag)(w:D!)(pb a b sb:Nat)(va vb:I?)(m:fD)(W:D!):Prop:=∃e,bQ W e pb a b sb va vb m/\Step iK G w e W
theorem Env.pair(h:Env w G ml)(e:Step iK G w G1 w1):Env w1 G1 ml:=h.step e DU
theorem MK(h:bQ w G pb a b sb va vb m)(a5:Env w G ml)(D:cO N m)(a6:m.time+1<=1073741824)(av:N+1200000<=40000000000):
 G! E? 76 #[ptr pb] w λe f=>e=.returned (.tuple #[])/\bL G w pb a b sb va vb (jQ m) f:=by
 have ao:=h.blk.k 0;have ap:=h.blk.k 1;have ab:=D.t0;have ac:=D.r0;have ad:=D.r1;have a1:wrap64 (m.random+m.time)=m.random+m.time:=wrap_small B! B!
 have M:E!<|∀W m',bL G w pb a b sb va vb m' W->W.cell? (B? pb 2)=C! (ptr sb)/\W.cell? (B? pb 3)=N? m'.time/\W.cell? (B? pb 4)=N? m'.random/\W.frozen? (B? pb 3)=H!/\pb<W.heap.size:=A? λW m' E=>by
  obtain⟨O,u,g⟩:=E;exact⟨u.blk.cell 2,u.blk.cell 3,u.blk.cell 4,u.blk.frozen 3,u.blk.lt⟩
 have a9:E!<|bL G w pb a b sb va vb (kR m 0) w:=A? ⟨G,h,Step.refl _ _ _⟩
 have B:E!<|∀W,bL G w pb a b sb va vb (kR m 0) W->G! E? 89 #[ptr a,ptr sb,A!<|m.random+m.time] W λe f=>e=.returned (A! 0)/\bL G w pb a b sb va vb (kR m 1) f:=A? λW E=>by
  obtain⟨O,u,g⟩:=E;apply(KD (m.random+m.time) u.adV (.inl rfl) (a5.pair g) D.a B! B!).mono;rintro e f ⟨rfl,F,C,A⟩;have:=u.abW C A;refine⟨rfl,F,?_,g.trans<|A.mono<|sE (.inl rfl)⟩;show bQ _ _ _ _ _ _ _ _ (if(1:Nat)=0 then _ else if(1:Nat)=1 then _ else _);rw[F! I!,G? rfl,a1];exact this
 have V:E!<|∀W,bL G w pb a b sb va vb (kR m 1) W->G! E? 89 #[ptr b,ptr sb,A!<|m.random+m.time] W λe f=>e=.returned (A! 0)/\bL G w pb a b sb va vb (kR m 2) f:=A? λW E=>by
  obtain⟨O,u,g⟩:=E;rw[show kR m 1={m with a:=(nu (m.a,m.s)<|m.random+m.time).1,s:=(nu (m.a,m.s)<|m.random+m.time).2}from by unfold kR;rw[F! I!,G? rfl,a1]]at u;apply(KD (m.random+m.time) u.adW (.inr rfl) (a5.pair g) (abY D a6) B! B!).mono;rintro e f ⟨rfl,F,C,A⟩;have:=u.abX C A;refine⟨rfl,F,?_,g.trans<|A.mono<|sE (.inr rfl)⟩;show bQ _ _ _ _ _ _ _ _ (if(2:Nat)=0 then _ else if(2:Nat)=1 then _ else _);rw[F! I!,F! I!,a1];exact this
 have a7:E!<|∀W,bL G w pb a b sb va vb (kR m 2) W->bL G w pb a b sb va vb (jQ m) (W.setCell (B? pb 3)<|A!<|m.time+1):=A? λW E=>by
  obtain⟨O,u,g⟩:=E;let⟨C,A⟩:=u.own (t:=m.time+1) (r:=m.random) (ay W pb 3 _)<|u.blk.set 3 _ rfl;exact⟨_,C,g.trans A⟩
 have y:E!<|∀j,(kR m j).time=m.time/\(kR m j).random=m.random:=A? λj=>by
  unfold kR;exact meT
 let⟨a3,ag⟩:=F? m.time;let⟨a2,ae⟩:=F? m.random;rw[ag]at B V a7 y ab a6;rw[ae]at B V y ac ad;unfold ptr at*
 go_wp2
 go_loopw[8] (λi wr=>∃j:Nat,j<=2/\i=A! j/\E! (bL G w pb a b sb va vb (kR m j) wr)) (λi _=>2-(intOf i).toNat)
 case atStart=>exact⟨0,I!,rfl,a9⟩
 case round=>
  obtain⟨j,ax,rfl,K⟩:=hrel
  have a0:bL G w pb a b sb va vb (kR m j) wr.drew:=by
   let⟨O,u,g⟩:=K.out;exact⟨O,u.step (aB (λ_=>False) O wr) (λ_ _ e=>e),g.trans<|aB _ _ _⟩
  obtain⟨a4,H,J,-,am⟩:=M _ _ a0;rw[(y j).1]at H;rw[(y j).2]at J;rcases(by omega:j=0\/j=1\/j=2)with rfl|rfl|rfl
  .have al:=Vc a b wr;have Y:=A?<|B _ a0;go_wp2;refine dW (λf=>L! f pb 2 (P? sb)/\J? f pb 3 a3/\J? f pb 4 a2) (zcb [14,1]) (⟨a4,H,J⟩) ?_;refine R? ?_;intro aa Z;go_wp2_with(go_at_call 89;refine M! Y λan L=>?_);obtain⟨X,I,R,-,-⟩:=M _ _ L;rw[(y _).1]at I;rw[(y _).2]at R;refine O! Z ⟨X,I,R⟩ ?_;apply aj;go_wp2;go_roundw
   case rel=>exact⟨1,I!,rfl,L⟩
   case measure=>simp[intOf]
  .have al:=Vd a b wr;have Y:=A?<|V _ a0;go_wp2;refine dW (λf=>L! f pb 2 (P? sb)/\J? f pb 3 a3/\J? f pb 4 a2) (zcb [14,1]) (⟨a4,H,J⟩) ?_;refine R? ?_;intro aa Z;go_wp2_with(go_at_call 89;refine M! Y λan L=>?_);obtain⟨X,I,R,-,-⟩:=M _ _ L;rw[(y _).1]at I;rw[(y _).2]at R;refine O! Z ⟨X,I,R⟩ ?_;apply aj;go_wp2;go_roundw
   case rel=>exact⟨2,I!,rfl,L⟩
   case measure=>simp[intOf]
  .obtain⟨-,H,-,ar,am⟩:=M _ _ K.out;rw[(y 2).1]at H;have a8:=A?<|a7 _ K.out;go_wp2;go_end0;exact⟨rfl,a8⟩
section
variable{ab:Nat}
theorem Qv(n:Int)(w:D!):G! E? 17 #[A! n] w (T! w<|A! n):=by
 exact d?
def lW:cP:=⟨4,3,1,256,16,800,200,2,2,4,2,3,H!,⟨#[115]⟩,⟨#[115]⟩,⟨#[115]⟩,1,2⟩
theorem KI:iH lW=true:=I!
theorem Ye(w:D!):G! E? 26 #[] w (S? w (.agg xak)):=by
 go_in
 go_wp2_with(apply kf rfl 23 _ rfl xak M?);refine V? (mdI rfl _ _ w.heap.size 23 xak (0,0) _ rfl (c! _ _) underlying23 rfl M?) rfl ⟨rfl,R!⟩
end
