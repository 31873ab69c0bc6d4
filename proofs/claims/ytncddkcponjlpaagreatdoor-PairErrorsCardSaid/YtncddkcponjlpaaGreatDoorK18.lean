/- Walks and plain laws. -/
import Derived.Test.YtncddkcponjlpaaGreatDoorK13
import Derived.Test.YtncddkcponjlpaaGreatDoorK16
set_option linter.unusedVariables false
set_option linter.unusedSimpArgs false
set_option maxHeartbeats 0
set_option maxRecDepth 99999
namespace Go.Proofs.YtncddkcponjlpaaGreatDoor
open Go.RowKit Go.Proofs.Tryz
open Go renaming World→D!,Value→I?,Calls→G!,IntKind→ncy
open Go.RowKit renaming Hid→E!
open Decidable renaming decide→K?
open Option renaming some→C!,none→L?
open Bool renaming true→C?,false→H!
open Go.Proofs.Tryz renaming prog→E?
variable{P:Prop}
variable{w w1:D!}{G G1:Nat->Tag}{t:Tag}{b:Nat}{m m':bh}
theorem JH(o:bD):(Dl o).length=2+o.2.size:=by
 unfold Dl;rw[V!,V!,bch,show o.2.data.size=o.2.size from rfl];omega
theorem VZ{s o:cu}{p:bg}{r:cL}{e:Int}(i:(aW p).2=0)(h:¬(s.state=0\/s.state=1))(n:kg s p=(o,r,C! e)):dU s p=qj o e r:=by
 unfold dU;rw[F!<|by rw[i];simp,F! h,n]
theorem V0{s e:cu}{p:bg}{r:cL}(o:(aW p).2=0)(n:¬(s.state=0\/s.state=1))(i:kg s p=(e,r,L?)):dU s p=(e,[],0):=by
 unfold dU;rw[F!<|by rw[o];simp,F! n,i]
structure ag0(m:bh)(link:Int):Prop where
 g:ia m
 p:m.bB≠[]
 k:au m.lanes link=C?
 d:(aL m link).drains=H!
 n:m.lanes.length<=1048576
 w:∀k l,(k,l)∈m.lanes->l.waits.length<=3000000000000
 c0:0<=m.cut
 c1:m.cut<=1099511627776
theorem cN.cells{x:EM}(h:cN w G t b x m):J? w b 0 m.size/\L! w b 1 (H? m.short)/\J? w b 2 m.seq/\L! w b 3 x.v/\J? w b 4 m.cut/\L! w b 5 (.map<|C! x.mo)/\L! w b 6 (.map<|C! x.ml):=
 ⟨h.blk.cell 0,h.blk.cell 1,h.blk.cell 2,h.blk.cell 3,h.blk.cell 4,h.blk.cell 5,h.blk.cell 6⟩
def ZW(b o:Nat)(cut:Int)(e:D!):Prop:=L! e b 5 (.map<|C! o)/\J? e b 4 cut
def ZX(b:Nat)(o:Int)(i:Bool)(e:D!):Prop:=J? e b 2 o/\L! e b 1 (H? i)
def ZY(b F L:Nat)(v:I?)(f:bF)(cut:Int)(e:D!):Prop:=L! e L 0 v/\L! e F 0 (H? f.b)/\L! e F 1 (H? f.e)/\J? e F 2 f.seq/\L! e F 3 (D? f.d)/\J? e b 4 cut
def ZZ(b:Nat)(v:I?)(i n:Nat)(o:ByteArray)(s:Int)(r:Bool)(e:D!):Prop:=
 L! e b 1 (H? r)/\J? e b 2 s/\L! e b 3 v/\L! e i n (D? o)
def JX(t:Tag)(b:Nat)(x:EM)(m':bh)(G:Nat->Tag)(w:D!)(e:Ending)(i:D!):Prop:=e=.returned (.tuple #[])/\∃o n,cN i o t b {x with v:=n} m'/\Step (aq t) G w o i
theorem aJ{t:Tag}(h:t≠[]):¬aq t free:=λe=>h<|List.prefix_nil.1 e
theorem xw{t:Tag}{a:Int}{s:Tag}:¬aq (t++a::s) free:=aJ N!
section
variable{P:Program}{α:Type}{E:Elem P α}{l:List α}{g o n c:Nat}
theorem jd.cellAt(h:jd E w (J! (C!<|B? g o) n c) l)(j:Nat)(s:j<l.length)(i:Nat)(d:i<E.size):w.cell? (B? g<|o+j*E.size+i)=(E.enc l[j])[i]? :=by
 let⟨b,k,u,e,f,y,v,r⟩:=h.cell (by intro e;rw[e]at s;simp at s);simp only[ba9,bbD,bcH]at e;obtain⟨⟨rfl,rfl,-⟩,-,-⟩:=e;exact r j s i d
theorem aD.cellAt(h:aD E w (J! (C!<|B? g o) n c) l)(j:Nat)(s:j<l.length)(i:Nat)(d:i<E.size):w.cell? (B? g<|o+j*E.size+i)=(E.enc l[j])[i]? :=by
 rcases h with⟨rfl,e⟩|⟨f,q,u,e,y,v,k,r⟩
 .simp at s
 .simp only[ba9,bbD,bcH]at e;obtain⟨⟨rfl,rfl,-⟩,-,-⟩:=e;exact r j s i d
end
def kP(m:bh)(R:List Int)(F:List bF)(k:Nat):KV fk:=(F.zipIdx.take k).foldl (fC R m.cut) m.lanes
theorem Ej(m:bh)(R:List Int)(F:List bF)(k:Nat)(e:k<F.length):kP m R F (k+1)=fC R m.cut (kP m R F k) (F[k],k):=by
 unfold kP;have h:k<F.zipIdx.length:=by simpa using e
 rw[u! h,ϙ];simp
theorem RY(m:bh)(R:List Int)(F:List bF):kP m R F F.length=F.zipIdx.foldl (fC R m.cut) m.lanes:=by
 unfold kP;rw[u? N!]
theorem GL(m:bh)(R:List Int)(F:List bF)(e:R≠[])(h:∀k∈R,au m.lanes k=C?)(k:Nat):((kP m R F k).map (·.1)=m.lanes.map (·.1))/\∀i,au (kP m R F k) i=au m.lanes i:=mZ e _ _ h
theorem CN(m:bh)(R:List Int)(F:List bF)(d:(m.lanes.map (·.1)).Nodup)(n:R≠[])(h:∀k∈R,au m.lanes k=C?){W:Nat}(u:∀k l,(k,l)∈m.lanes->l.waits.length<=W):∀(k:Nat),k<=F.length->∀i l,(i,l)∈kP m R F k->l.waits.length<=W+k
 |0,_,i,l,o=>u i l o
 |k+1,v,i,l,o=>by
  have f:=CN m R F d n h u k B!;rw[Ej m R F k B!]at o;have r:=GL m R F n h k;have c:((kP m R F k).map (·.1)).Nodup:=by rw[r.1];exact d
  unfold fC at o;dsimp only at o;have g:=ϛ.2 n
  have y:R.getD (k%R.length) 0∈R:=by
   rw[ba1,ο<|x? _ g];exact l! _
  have s:au (kP m R F k) (R.getD (k%R.length) 0)=true:=by rw[r.2];exact h _ y
  rcases Cx c s o with⟨rfl,rfl⟩|⟨e,o⟩
  .show(_++[_]).length<=_;rw[X!,baW];have:=f _ _<|(eA c).1<|mr s jB;omega
  .have:=f i l o;omega
theorem WG{x:EM}(Y:Int)(h:cN w G t b x m)(C:ag0 m Y)(he:t≠[]):
 G! E? 221 #[ptr b,A! Y] w (JX t b x (pY m Y) G w):=by
 have fi:=A?<|ZN Y h C.n
 obtain⟨g,A,W⟩:∃g A,m.bB=g::A:=by
  cases e:m.bB with
  |nil=>exact absurd e C.p
  |cons a l=>exact⟨a,l,rfl⟩
 let⟨c4,f0⟩:=C.g.pk g (by rw[W];exact x!);let⟨c5,dk,ao⟩:=Ee C.g;let⟨S,hS⟩:=F?<|rA m;have d7:E!<|S=max m.size.toNat ((g.size+63)/64):=A? (by rw[<-hS];unfold rA;rw[W];rfl);rw[hS]at c5 dk ao;rw[W]at ao;simp only[bbj]at ao;have gc:=C.g.s0;have gd:=C.g.s1;have g4:=C.g.q0;have g5:=C.g.q1;have ej:E!<|max m.size (((g.size:Int)+64-1)/64)=(S:Int):=A? (by have:=d7.out;omega);have O:=A? h;have V:=A? C;have h2:=h.blk.lt;clear hS;unfold ptr;go_in;go_wp2_with fail;apply fi.mono;rintro e w1 ⟨gm,rfl,c3,em⟩;have ci:Step (λ_=>False) G w (grow G w.heap.size free) w1:=Step.below em;have E:=O.step ci λ_ _ h=>h;have e6:oy DZ (grow G w.heap.size free) free w1 gm<|(jN m Y).map x.f:=⟨c3.1,λk a7=>⟨(c3.2 k a7).2,fE G free (c3.2 k a7).1⟩⟩;let⟨fr,eb,ec,ag,cn,fs,ft⟩:=E.cells;let⟨z,po,a2,j,e2,gw,h9,e5⟩:=E.IG.1.cell (by rw[W];simp)
 have ez:w1.cell? (B? z po)=C! (.string g):=by
  have:=e5 0 (by rw[W];simp) 0 I!;simp only[W]at this;exact this
 rw[W,V!]at j e2;have br:=A? j;rw[j]at ag;have ds:=A? E;have ce:=A? e6;have bm:=A?<|ci.mono (U:=aq t) λ_ h=>h.elim;have g8:IntKind.i64.wrap ((g.size:Int)+64)=(g.size:Int)+64:=lY B! B!;obtain⟨bi,cz⟩:∃bi:Int,((g.size:Int)+63)/64=bi:=⟨_,rfl⟩;have g9:IntKind.i64.wrap ((g.size:Int)+64-1)=(g.size:Int)+63:=by rw[lY B! B!];omega
 have b8:IntKind.i64.wrap (((g.size:Int)+63).tdiv 64)=bi:=by rw[mec B!,lY B! B!];exact cz
 have ga:max m.size bi=(S:Int):=by rw[<-ej.out,<-cz];congr 2;omega
 clear ci E e6 c3 j e5 cz ej;go_wp2_with fail;apply gG M? M?
 repeat still_step
 apply Θ;let⟨f6,ck⟩:=F? w1.drew;have d9:K! w1 f6:=by rw[<-ck];exact aQ U?
 rw[ck];clear ck g8 g9 b8 ga fr cn fs ft;have hS:E!<|∀y,K! w1 y->ZZ b (.slice (C!<|B? z po) (A.length+1) a2) z po g m.seq m.short y:=A? λy c0=>⟨aw c0 eb,aw c0 ec,aw c0 ag,aw c0 ez⟩;clear eb ec ag ez;go_wp2;refine dW (ZZ b (.slice (C!<|B? z po) (A.length+1) a2) z po g m.seq m.short) (zca [0,2,4,6,8,10,12,16,18,20,22,24,26,28,30,15,33,34,36,38,40,42]) (hS _<|aQ d9) ?_;refine tR ?_;let⟨cb,b8⟩:=F? f6.drew;have da:K! w1 cb:=by rw[<-b8];exact aQ d9
 rw[b8];clear b8 d9;refine R? ?_;intro K u;go_wp2_with fail;have al:=da.alloc da.size (.cells #[A! S] 3);have B:=aO.new cb 3 #[A! S];generalize cb.alloc (.cells #[A! S] 3)=gn at al B|-;apply O! u (hS _ al);clear u K;refine ai λK u=>?_;go_wp2_with(go_at_call 255;refine(ZV g cb.heap.size S m.seq m.short gn (B.cell 0) ⟨c5,dk⟩ ⟨c4,f0,ao⟩ ⟨g4,g5⟩).mono ?_;rintro e f7 ⟨f5,rfl,I,en⟩);have db:=al.trans<|en.mono al.size;have bs:=I.base al.size;apply O! u (hS _ db);clear u K;refine T? ?_;have eh:=Gw g S m.seq m.short c5 ao;have b1:=yY g S m.seq m.short c4;let⟨F,d1⟩:=F?<|yA g S m.seq m.short;rw[d1]at eh b1 I bs
 have ar:E! (pY m Y={m with lanes:=F.zipIdx.foldl (fC (jN m Y) m.cut) m.lanes,opn:=bI m.opn m.cut F.length,cut:=m.cut+1,bB:=A,seq:=(m.seq+F.length)%gh m.short}):=A? (by
  unfold pY;dsimp only;rw[W,bbj,List.tail_cons,<-d1,d7.out])
 clear d1 hS d7 B da al I en;let⟨R,ca⟩:=F?<|jN m Y
 have bv:R≠[]:=by
  let⟨r,g6⟩:=mY V.g V.k V.d;rw[<-ca,g6];simp
 have ek:∀k∈R,au m.lanes k=true:=λk a7=>oT (by rw[ca];exact a7);rw[ca]at ar ce;have c6:=Step.below (T:=λ_=>False) (G:=grow G w.heap.size free) db;have dp:=ds.step c6 λ_ _ h=>h;have ch:=bm.trans<|c6.mono (U:=aq t) λ_ h=>h.elim;have a0:=ce.step c6 λh=>h;have b0:pd Jy (grow (grow G w.heap.size free) w1.heap.size free) free f7 f5 F:=⟨bs.base<|S! _,λk a7=>fE _ free<|bs.block k a7⟩;generalize grow (grow G w.heap.size free) w1.heap.size free=dr at dp ch a0 b0;clear c6 ds bm ce db em O bs;obtain⟨h3,gs,b1⟩:=b1
 obtain⟨X,a4,cp,rfl⟩:∃X a4 cp,f5=.slice (C!<|B? X a4) F.length cp:=by
  rcases b0.at with⟨e,_⟩|⟨g0,gk,fp,e,E,h4,h7,h6⟩
  .rw[b1]at e;cases e
  .exact⟨g0,gk,fp,e⟩
 obtain⟨dq,bc,gl,rfl,-,-,-,-⟩:=a0.1.cell (by simpa using bv);rw[g!]at a0|-;let⟨n,hn⟩:=F? R.length;have ew:0<n:=by rw[<-hn];exact ϛ.2 bv
 have gq:n<=9223372036854775807:=by
  let⟨a,c,e,fx,co⟩:=a0.1.form;rw[g!,hn]at fx;unfold maxLen at co;omega
 let⟨az,d5⟩:=F? F.length;rw[hn]at a0|-;rw[d5]at b0 eh ar|-;have HN:=A? d5;have e0:=A? hn;have cf:=A? ek;have dv:=A? bv;have f4:cN f7 dr t b x {m with lanes:=kP m R F 0}:=dp;clear hn d5 bv ek b1 ca c4 f0 c5 dk ao gc gd dp;go_wp2;go_loopw[51] (λi wr=>∃(k:Nat) (D:Nat->Tag),i=A! k/\k<=az/\cN wr D t b x {m with lanes:=kP m R F k}/\Step (aq t) G w D wr/\oy DZ D free wr (.slice (C!<|B? dq bc) n gl) (R.map x.f)/\pd Jy D free wr (.slice (C!<|B? X a4) az cp) F) (λi _=>az-(intOf i).toNat)
 case atStart=>exact⟨0,dr,rfl,S! _,f4,ch,a0,b0⟩
 case round=>
  obtain⟨k,D,rfl,a7,a8,b7,b5,I⟩:=hrel;clear f4 ch a0 b0;by_cases hlt:k<az
  .have am:k<F.length:=Δ;have de:k%n<R.length:=by rw[e0.out];exact x? _ ew
   have ba:=I.at.cellAt k am 0 I!;have aa:=I.at.cellAt k am 1 I!;have ab:=I.at.cellAt k am 2 I!;have c9:=I.at.cellAt k am 3 I!;have ac:=b5.1.cellAt (k%n) (by rw[g!];exact de) 0 I!;rw[bb2]at ac;have dt:=A?<|Ej m R F k am;let⟨f,eq⟩:=F?<|F[k];let⟨K,u⟩:=F?<|R[k%n];rw[eq]at ba aa ab c9 dt;rw[u]at ac;have ba:wr.cell? (B? X<|a4+k*4)=C! (.bool f.b):=ba;have aa:wr.cell? (B? X<|a4+k*4+1)=C! (.bool f.e):=aa;have ab:wr.cell? (B? X<|a4+k*4+2)=N? f.seq:=ab;have c9:wr.cell? (B? X<|a4+k*4+3)=C! (.string f.d):=c9
   have ac:wr.cell? (B? dq<|bc+k%n)=C! (.pointer<|C!<|B? (x.f K) 0):=by
    have e:bc+k%n*DZ.size+0=bc+k%n:=by show bc+k%n*1+0=_;omega
    rw[e]at ac;exact ac
   have e4:K∈R:=by rw[<-u];exact l! _
   have ei:R.getD (k%n) 0=K:=by rw[ba1,ο de,<-u];rfl
   have es:((k:Int)).tmod (n:Int)=((k%n:Nat):Int):=naj;have et:((k:Int))%(n:Int)=((k%n:Nat):Int):=N!;have fj:k%n<n:=x? _ ew;have fd:=A? e4;have e3:=A? ei;clear eq u e4 ei am de;let⟨hf,e7⟩:=F?<|k%n;rw[e7]at es et fj ac e3;have h8:(n:Int)≠0:=B!;have fl:=(b5.2 dq rfl).1;have fm:X<wr.heap.size:=h! ba;go_wp2_with fail;have B:=aO.new wr 228 #[.bool f.b,.bool f.e,A! f.seq,.string f.d];let⟨f9,cj⟩:=F?<|wr.alloc (.cells #[.bool f.b,.bool f.e,A! f.seq,.string f.d] 228);have ep:K! wr f9:=by rw[<-cj];exact R!
   rw[cj]at B|-;clear cj ba aa ab c9 ac es et fl fm;let⟨bj,d2⟩:=F? wr.heap.size;rw[d2]at B|-;have fb:=A? d2;clear d2;have dd:=GL m R F dv cf k;have d4:au (kP m R F k) K=true:=by rw[dd.2];exact cf _ fd
   have b6:=Step.below (T:=λ_=>False) (G:=D)<|aQ ep;have a9:=a8.step b6 λ_ _ h=>h;have bx:=b7.trans<|b6.mono (U:=aq t) λ_ h=>h.elim;have bo:=b5.step b6 λh=>h;have bz:=I.step b6 λh=>h;have f3:=CN m R F V.g.ln dv cf V.w k (by have:=HN.out;omega);have ey:((kP m R F k).map (·.1)).Nodup:=by rw[dd.1];exact V.g.ln
   have d3:grow D wr.heap.size free bj=free:=by rw[<-fb.out];exact fE D free O?
   generalize grow D wr.heap.size free=gt at a9 bx bo bz d3;clear b6 b7 b5 I;let⟨v,j⟩:=a9.uK d4;let⟨l,c2⟩:=F?<|aL {m with lanes:=kP m R F k} K;have g3:l.waits.length<=3000000000000+k:=by rw[<-c2];exact f3 _ _<|(eA ey).1<|mr d4 jB
   have fn:E! (kP m R F (k+1)=bI (kP m R F k) K {l with waits:=l.waits++[(f,m.cut)]}):=A? (by
    rw[dt.out];unfold fC;dsimp only;rw[e0.out,e7,e3.out,<-c2];rfl)
   rw[c2]at j;have a3:=B.below<|aQ U?;let⟨bf,hwd⟩:=F? f9.drew;rw[hwd]at a9 bx bo bz j a3;have h5:=a3.lt
   have b4:∀i,v.ownBlock=C! i->i≠x.f K:=λi hi e=>by
    have E:=(j.row.2 i hi).2;rw[e,j.tag]at E;simp at E
   have ex:∀i,v.ownBlock=C! i->i≠b:=λi hi e=>by
    have E:=(j.row.2 i hi).2;rw[e,a9.tag,baa]at E;exact oV E.symm
   have b3:∀i,v.ownBlock=C! i->i≠bj:=λi hi e=>by
    have E:=(j.row.2 i hi).2;rw[e,d3]at E;simp[free]at E
   have hS:E! (∀y v',Only (λi=>v.ownBlock=C! i) bf y->v'=v->ZY b bj (x.f K) v' f m.cut y):=A? (λy v' M e=>by
    subst e;refine⟨?_,?_,?_,?_,?_,?_⟩
    .exact(j.blk.only M λe=>b4 _ e rfl).cell 0
    .exact(a3.only M λe=>b3 _ e rfl).cell 0
    .exact(a3.only M λe=>b3 _ e rfl).cell 1
    .exact(a3.only M λe=>b3 _ e rfl).cell 2
    .exact(a3.only M λe=>b3 _ e rfl).cell 3
    .exact(a9.blk.only M λe=>ex _ e rfl).cell 4)
   have fe:E!<|(l.waits.length+1)*Jz.bytes<=140737488355328:=A? (by show(l.waits.length+1)*40<=_;omega);have av:=A? j;have fg:=A? a9;obtain⟨hg,hh,f2,-,-⟩:=j.row.1.form;have el:E!<|∀wc,Only (λi=>v.ownBlock=C! i) bf wc->wc.cell? (B? (x.f K) 0)=C! v/\wc.frozen? (B? (x.f K) 0)=false:=A? λwc M=>⟨(j.blk.only M λe=>b4 _ e rfl).cell 0,(j.blk.only M λe=>b4 _ e rfl).frozen 0⟩;have du:=A? b4;have fc:=A? d4;have gx:=j.blk.lt;have gv:=A? f2;clear j a9 a3 B ep a8 b4 ex b3 d3 f3 ey dd f2 g3 c2;refine yS (ZY b bj (x.f K) v f m.cut) 15 [(0,1),(1,1),(2,1),(3,1),(4,1),(5,1),(6,1),(7,1),(8,1),(9,1),(10,1),(11,0),(12,0),(13,2),(14,1),(15,0)] (by rw[hwd];exact hS _ v (Only.refl _ _) rfl) ?_;rw[hwd];clear hwd;refine tL ?_;refine oh λax J=>?_;go_wp2_with fail;apply O! J (hS _ v ((Only.refl _ _).alloc _) rfl);clear J ax;refine oh λax J=>?_;go_wp2_with(at_builtin;refine dz Jz rfl _ _ rfl _ l.waits (f,m.cut) _ av.row.1 (λi hi=>(av.row.2 i hi).1) rfl _ rfl rfl fe I! λv' wc dj an dl=>?_;obtain⟨bd,be,rfl,-,-⟩:=dj.form);apply O! J (hS _ v an rfl);clear J ax;refine tL ?_;let⟨fv,g1⟩:=el _ an;refine iz λax J=>?_;go_wp2_with fail;refine ah<|J _ _ ?_;clear J ax;have cd:=ay wc (x.f K) 0 (.slice bd (l.waits++[(f,m.cut)]).length be);have e1:Only (λi=>i=x.f K\/v.ownBlock=C! i) bf<|wc.setCell (B? (x.f K) 0) (.slice bd (l.waits++[(f,m.cut)]).length be):=(an.mono λ_ _ e=>.inr e).trans<|cd.mono λ_ _ e=>.inl e
   have dh:∀i,(Value.slice bd (l.waits++[(f,m.cut)]).length be).ownBlock=C! i->i≠x.f K/\i<wc.heap.size:=λi hi=>by
    rcases dl i hi with e|e
    .exact⟨du i e,Z! (av.row.2 i e).1 an.size⟩
    .exact⟨B!,e.2⟩
   let⟨bk,ee,a5⟩:=av.E8 (v':=.slice bd (l.waits++[(f,m.cut)]).length be) (l':={l with waits:=l.waits++[(f,m.cut)]}) e1 ((av.blk.only an λe=>du _ e rfl).set 0 _ rfl) (dj.heap λi hi=>cd.block i (dh i hi).2 (dh i hi).1) λi hi=>(dl i hi).imp id λe=>⟨e.1,by simp[World.setCell];exact e.2⟩;let⟨cr,cv⟩:=fg.LL fc a5 ee;rw[show(l.waits++[(f,m.cut)]).length=l.waits.length+1 from N!]at a5 cr cv;have gb:cN (wc.setCell (B? (x.f K) 0) (.slice bd (l.waits.length+1) be)) bk t b x {m with lanes:=kP m R F (k+1)}:=by rw[fn.out];exact cr
   have fo:=bx.trans cv;have g7:=bo.step a5 xw;have fh:=bz.step a5 xw;clear ee a5 cr cv cd e1 dh dj an dl fv g1 el bo bz bx;go_wp2;go_roundw
   case rel=>exact⟨k+1,bk,W!,B!,gb,fo,g7,fh⟩
   case measure=>simp[intOf];omega
  .obtain rfl:k=az:=B!;have d8:=RY m R F;rw[HN.out]at d8;rw[d8]at a8;have h0:=V.c0;have h1:=V.c1;have hb:=vG m.short;generalize F.zipIdx.foldl (fC R m.cut) m.lanes=ad at ar a8;have ae:=a8.ne;have O:=A? a8;have bm:=A? b7;have eg:E!<|∀y m',aO y b 137 (oA x m')->m'.cut=m.cut->ZW b x.mo m.cut y:=A? λy m' h e=>⟨h.cell 5,by rw[<-e];exact h.cell 4⟩;clear d8 a8 b7 b5 I;go_wp2;refine dW (ZW b x.mo m.cut) (zcb [10,1]) (eg _ {m with lanes:=ad} (O.blk.below<|aQ U?) rfl) ?_;refine tK ?_;let⟨bf,hwd⟩:=F? wr.drew;have c1:K! wr bf:=bbw;rw[hwd];clear hwd;refine ai λK u=>?_;go_wp2_with(refine eD rfl _ _ _ rfl underlying91 underlying3 m.cut (A! k) (O.mo.below c1) rfl rfl rfl λH hm df ge=>?_);have a1:=(O.blk.below c1).only df<|X? ae.1;apply O! u (eg _ {m with lanes:=ad} a1 rfl);clear u K;refine T? ?_;have ev:bp H x.mo<|dY (λ_ n=>A! n)<|bI m.opn m.cut (k:Int):=by rw[<-jK (λ_ n=>Value.int .i64 n)];exact hm
   have e8:=(Only.aP c1).trans df;have cn:H.cell? (B? b 4)=N? m.cut:=a1.k 4;have ag:=a1.k 3;rw[br.out]at ag;have fz:=a1.frozen 4;have fy:=a1.frozen 3;have fa:=A? a1;have ff:=A? ev;have bl:=A? e8;have ha:=e2;clear hm df ge a1 ev e8 c1;have c8:jd fB H x.v m.bB:=O.IG.1.heap λi hi=>bl.block i (O.IG.2 i hi).1 (ae.2.2.2 i hi).2.1;rw[br.out,W]at c8;rw[show(A.length+1)=(g::A).length from rfl]at c8;have dy:=A? c8;have f1:a2=1\/1<a2:=B!;clear c8;rcases f1 with rfl|f1
   focus
    obtain rfl:A=[]:=y? B!;have ap:E!<|jd fB H (.slice (C!<|B? z po) 0 0) []:=A?<|dy.tail _ (.inl rfl);go_wp2_with fail;let⟨N,Z⟩:=F?<|Value.slice (C!<|B? z po) 0 0;have c7:∀i,N.ownBlock=C! i->i=z:=λi hi=>by rw[<-Z]at hi;cases hi;rfl
    simp only[l?]at Z|-;rw[Z]at ap|-;obtain⟨A,e9⟩:∃A:List ByteArray,[]=A:=⟨_,rfl⟩;rw[e9]at ar ap;clear Z e9
   rotate_left
   focus
    have ap:E!<|jd fB H (.slice (C!<|B? z<|po+1) A.length<|a2-1) A:=A?<|dy.tail _ (.inr rfl);have c4:¬a2=1:=B!;go_wp2_with fail;let⟨N,Z⟩:=F?<|Value.slice (C!<|B? z<|po+1) A.length<|a2-1;have c7:∀i,N.ownBlock=C! i->i=z:=λi hi=>by rw[<-Z]at hi;cases hi;rfl
    rw[Z]at ap|-;clear Z
   all_goals
    have d6:=((ay H b 4<|A!<|m.cut+1).trans<|ay _ b 3 N);have cy:aO ((H.setCell (B? b 4)<|A!<|m.cut+1).setCell (B? b 3) N) b 137<|oA {x with v:=N} {m with lanes:=ad,cut:=m.cut+1}:=(fa.set 4 _ rfl).set 3 _ rfl;generalize (H.setCell (B? b 4)<|A!<|m.cut+1).setCell (B? b 3) N=cc at d6 cy|-;have g2:=λw=>ru m.short w;have d0:E!<|∀y,aO y b 137 (oA {x with v:=N} {m with lanes:=ad,cut:=m.cut+1})->ZX b m.seq m.short y:=A? λy h=>⟨h.cell 2,h.cell 1⟩;have hd:IntKind.i64.wrap (m.seq+(k:Int))=m.seq+(k:Int):=lY B! B!;have b7:(m.seq+(k:Int)).tmod (gh m.short)=(m.seq+(k:Int))%gh m.short:=baB B!;have hc:gh m.short≠0:=B!;have a6:=cy.below<|aQ<|P! cc.heap.size cc;let⟨gp,b9⟩:=F? cc.drew;have eo:K! cc gp:=by rw[<-b9];exact aQ U?
    rw[b9]at a6;clear ag cn fy fz;refine yS (ZX b m.seq m.short) 16 [(0,1),(1,1),(2,1),(3,1),(4,1),(5,1),(6,1),(7,1),(8,1),(9,1),(10,1),(11,1),(12,0),(13,1),(14,2),(15,1),(16,0)] (by rw[b9];exact d0 _ a6) ?_;rw[b9];clear b9;refine tL ?_;refine oh λK u=>?_;go_wp2_with(go_at_call 85;apply(g2 _).mono;rintro e y ⟨rfl,rfl⟩);apply O! u (d0 _ a6);clear u K;refine tL ?_;have co:=a6.cell 2;have a5:=a6.frozen 2;refine iz λK u=>?_;go_wp2_with fail;refine ah<|u _ _ ?_;clear u K;have b2:Only (λi=>i=b) H<|y.setCell (B? b 2)<|A!<|(m.seq+(k:Int))%gh m.short:=(d6.then eo).trans<|ay y b 2 _;have ef:=a6.set (cs':=oA {x with v:=N} {m with lanes:=ad,opn:=bI m.opn m.cut (k:Int),cut:=m.cut+1,bB:=A,seq:=(m.seq+(k:Int))%gh m.short}) 2 (A!<|(m.seq+(k:Int))%gh m.short) rfl
    have ea:z<H.heap.size/\z≠b/\z≠x.mo/\z≠x.ml:=by
     have E:x.v.ownBlock=C! z:=by rw[br.out];rfl
     exact⟨Z! (O.IG.2 z E).1 bl.size,ae.2.2.2 z E⟩
    let⟨bk,aa,ab⟩:=O.E8 (v':=N) (m':={m with lanes:=ad,opn:=bI m.opn m.cut (k:Int),cut:=m.cut+1,bB:=A,seq:=(m.seq+(k:Int))%gh m.short})
     ((bl.mono λi _ e=>.inr (.inl e)).trans<|b2.mono λi _ e=>.inl e) ef (ap.heap λi hi=>b2.block i (by rw[c7 i hi];exact ea.1)<|by rw[c7 i hi];exact ea.2.1)
     (λi hi=>.inl<|by rw[c7 i hi,br.out];rfl) (ff.only b2 ae.1) (((O.ml.only bl<|X? ae.2.2.1).only b2 ae.2.1)) (λi l hi=>hi)
    have er:JX t b x (pY m Y) G w (.returned (.tuple #[]))<|y.setCell (B? b 2)<|A!<|(m.seq+(k:Int))%gh m.short:=by
     rw[ar.out];exact⟨rfl,bk,N,aa,bm.trans ab⟩
    have gg:=A? er;clear b2 ef aa ab er d0 d6 cy a6 co a5 eo;go_wp2;go_end0;exact gg
structure acY(m:bh):Prop where
 g:ia m
 n:m.lanes.length<=1048576
 w:∀k l,(k,l)∈m.lanes->l.waits.length<=3000000000000
 c0:0<=m.cut
 c1:m.cut<=1099511627776
def uh(r:bh×bF×Int):Value:=.tuple #[.agg #[H? r.2.1.b,H? r.2.1.e,A! r.2.1.seq,D? r.2.1.d],A! r.2.2]
theorem eC.alloc(h:eC w G t b m)(o:Obj):∃e,eC (w.alloc o) e t b m/\Step (aq t) G w e (w.alloc o):=⟨_,h.aP<|ak U? o⟩
theorem R3(n:Int)(h:eC w G t b m)(l:au m.lanes n=H!):G! E? 176 #[ptr b,A! n] w (kO t b (bY m n).1 G w<|uh<|bY m n):=by
 have u:bY m n=(m,eZ,2002):=by unfold bY;rw[G? l]
 rw[u];have d:=A? λo=>h.alloc o;obtain⟨x,h⟩:=h;have g:=h.blk.k 6;have y:=h.blk.lt;have f:=nQ (w:=w.alloc (.cells xaa 228)) (h.ml.below R!) underlying135 underlying3 π n;rw[l,F! I!]at f;unfold ptr uh;go_wp2;exact V? (v:=.tuple #[.agg xaa,A! 2002]) mdU rfl ⟨rfl,d _⟩
theorem R4(n:Int)(h:eC w G t b m)(hk:au m.lanes n=C?)(f:(aL m n).waits=[])(u:(aL m n).drains=C?\/m.bB=[]):G! E? 176 #[ptr b,A! n] w (kO t b (bY m n).1 G w<|uh<|bY m n):=by
 have E:bY m n=(m,eZ,2003):=by unfold bY;rw[F! bcD,F! (λe=>e f),G? u]
 rw[E];have HQ:=A? λo=>h.alloc o;obtain⟨x,h⟩:=h;have O:=h.blk.k 6;have d:=h.blk.k 3;have I:=h.blk.lt;have A:=nQ (w:=w.alloc (.cells xaa 228)) (h.ml.below R!) underlying135 underlying3 π n;rw[hk,G? rfl]at A;let⟨v,l⟩:=h.uK hk;obtain⟨a,c,rfl,-,-⟩:=l.row.1.form;have g:=l.blk.k 0;have y:=l.blk.k 1;have N:=l.blk.lt;rw[f]at g;simp only[l?]at g;obtain⟨S,R,k,-,-⟩:=h.IG.1.form;rw[k]at d
 have j:(aL m n).drains=C?\/((aL m n).drains=H!/\m.bB=[]):=by
  cases e:(aL m n).drains with
  |true=>exact .inl rfl
  |false=>rw[e]at u;exact .inr ⟨rfl,u.resolve_left I!⟩
 unfold ptr at*
 unfold uh;rcases j with e|⟨e,z⟩
 .rw[e]at y;exact naJ
 .rw[e]at y;rw[z]at d;simp only[l?]at d;exact naJ
theorem OJ(l:Int)(h:eC w G t b m)(hk:au m.lanes l=C?)(u:(aL m l).waits≠[]):G! E? 176 #[ptr b,A! l] w (kO t b (bY m l).1 G w<|uh<|bY m l):=by
 have I:bY m l=(m,((aL m l).waits.headD (eZ,0)).1,0):=by unfold bY;rw[F! bcD,G? u]
 rw[I];have O:=A? λo=>h.alloc o;obtain⟨x,h⟩:=h;have R:=h.blk.k 6;have H:=h.blk.lt;have N:=nQ (w:=w.alloc (.cells xaa 228)) (h.ml.below R!) underlying135 underlying3 π l;rw[hk,G? rfl]at N;let⟨v,d⟩:=h.uK hk
 obtain⟨⟨f,n⟩,W,Db⟩:∃y A,(aL m l).waits=y::A:=by
  cases e:(aL m l).waits with
  |nil=>exact absurd e u
  |cons y A=>exact⟨y,A,rfl⟩
 rw[Db];obtain⟨g,o,L,rfl,D,C,M,hcell⟩:=d.row.1.cell u;have S:=d.blk.k 0;have F:=d.blk.lt;have k:=hcell 0 baJ 0 I!;have j:=hcell 0 baJ 1 I!;have z:=hcell 0 baJ 2 I!;have E:=hcell 0 baJ 3 I!;simp only[Db,bcF,bbc,mdp]at k j z E;replace k:L! w g o<|H? f.b:=k;replace j:L! w g (o+1)<|H? f.e:=j;replace z:J? w g (o+2) f.seq:=z;replace E:L! w g (o+3)<|D? f.d:=E;rw[Db,V!]at S;unfold ptr at*
 unfold uh;go_wp2;exact V? (v:=.tuple #[.agg #[H? f.b,H? f.e,A! f.seq,D? f.d],A! 0]) mdU rfl ⟨rfl,O _⟩
theorem Step.OL{T:Tag->Prop}{G G1:Nat->Tag}{w w1 n:D!}{S:Nat->Prop}(h:Step T G w G1 w1)(i:Only S w1 n)(s:∀b,S b->w.heap.size<=b):Step T G w (grow G1 w1.heap.size free) n:=
 ⟨i.os.trans h.os,i.tape.trans h.tape,i.output.trans h.output,Z? h.size i.size,λb o=>(Fq G1 free (Z! o h.size)).trans (h.old b o),
  λb o r=>(i.block b (Z! o h.size) λe=>by have:=s b e;omega).trans (h.keep b o r)⟩
theorem cN.freed{x:EM}(h:cN w G t b x m)(r:t≠[]){S:Nat->Prop}(s:Only S w w1)(n:∀b,S b->G b=free):cN w1 (grow G w.heap.size free) t b x m:=
 h.step (Step.of (T:=λu=>u=free) s (λb _ e=>n b e) free) λu o e=>by
  rw[show u=free from e]at o;exact aJ r o
theorem JY{q:bh}{k:Int}(h:ia q)(n:au q.lanes k=C?)(e:(aL q k).drains=H!)(i:Int):au (pY q k).lanes i=au q.lanes i:=by
 let⟨r,s⟩:=mY h n e;exact(mZ (by rw[s];simp) _ _ λj o=>oT o).2 i
theorem R5{x:EM}(n:Int)(h:cN w G t b x m)(d:acY m)(O:t≠[])(hk:au m.lanes n=C?)(X:(aL m n).waits=[])(u:(aL m n).drains=H!)(k:m.bB≠[]):
 G! E? 176 #[ptr b,A! n] w (kO t b (bY m n).1 G w<|uh<|bY m n):=by
 have aa:bY m n=(pY m n,((aL (pY m n) n).waits.headD (eZ,0)).1,0):=by unfold bY;rw[F! bcD,F! (λe=>e X),F!<|by rintro(e|e);rw[u]at e;cases e;exact k e]
 rw[aa];have J:=yZ d.g hk u k;have K:au (pY m n).lanes n=true:=by rw[JY d.g hk u];exact hk
 have D:=A?<|λ(w:D!) (G:Nat->Tag) (h:cN w G t b x m)=>WG n h ⟨d.g,k,hk,u,d.n,d.w,d.c0,d.c1⟩ O;generalize pY m n=M at J K D|-
 obtain⟨⟨f,az⟩,b8,Db⟩:∃y H,(aL M n).waits=y::H:=by
  cases e:(aL M n).waits with
  |nil=>exact absurd e J
  |cons y H=>exact⟨y,H,rfl⟩
 rw[Db];have an:=h.blk.k 6;have F:=h.blk.k 3;have ao:=h.blk.lt;have ab:=nQ (w:=w.alloc (.cells xaa 228)) (h.ml.below R!) underlying135 underlying3 π n;rw[hk,G? rfl]at ab;let⟨v,j⟩:=h.uK hk;obtain⟨a,c,rfl,-,-⟩:=j.row.1.form;have Z:=j.blk.k 0;have ag:=j.blk.k 1;have ax:=j.blk.lt;rw[X]at Z;rw[u]at ag;simp only[l?]at Z;obtain⟨b0,b1,a4,-,-⟩:=h.IG.1.form;rw[a4]at F;have ac:=ϛ.2 k;generalize m.bB.length=al at F ac;have Y:=aO.new w 228 xaa;have V:K! w<|w.alloc (.cells xaa 228):=R!;have a0:=A?<|h.step (Step.below (T:=λ_=>False) V)<|λ_ _ h=>h;have a3:=A?<|(Step.below (T:=λ_=>False) (G:=G) V).mono (U:=aq t) λ_ h=>h.elim;have C:E!<|grow G w.heap.size free w.heap.size=free:=A?<|fE G free O?;unfold ptr at*
 unfold uh;go_in;go_wp2_with fail;apply(D _ _ a0).mono;rintro e w1 ⟨rfl,G1,b7,Q,A⟩;let⟨b6,E⟩:=Q.uK K;obtain⟨g,o,a5,rfl,ap,ar,av,hcell⟩:=E.row.1.cell baJ;have ae:L! w1 (x.f n) 0<|J! (C!<|B? g o) (aL M n).waits.length a5:=E.blk.k 0;have I:=hcell 0 baJ 0 I!;have N:=hcell 0 baJ 1 I!;have S:=hcell 0 baJ 2 I!;have R:=hcell 0 baJ 3 I!;simp only[Db,bcF,bbc,mdp]at I N S R;replace I:L! w1 g o<|H? f.b:=I;replace N:L! w1 g (o+1)<|H? f.e:=N;replace S:J? w1 g (o+2) f.seq:=S;replace R:L! w1 g (o+3)<|D? f.d:=R;rw[Db,V!]at ae;have l:aO w1 w.heap.size 228 xaa:=A.heap Y (by rw[C.out];exact aJ O);have B:=(A.old _ Y.lt).trans C
 have am:g≠w.heap.size:=λe=>by
  have W:=(E.row.2 g rfl).2;rw[e,B]at W;simp[free]at W
 have b2:=l.cell 0;have b3:=l.cell 1;have b4:=l.cell 2;have b5:=l.cell 3;have b9:=l.frozen 0;have ba:=l.frozen 1;have bc:=l.frozen 2;have bd:=l.frozen 3;have z:=((((l.set 0 (H? f.b) rfl).set 1 (H? f.e) rfl).set 2 (A! f.seq) rfl).set 3 (D? f.d) rfl);have L:Only (λi=>i=w.heap.size) w1<|(((w1.setCell (B? w.heap.size 0)<|H? f.b).setCell (B? w.heap.size 1)<|H? f.e).setCell (B? w.heap.size 2)<|A! f.seq).setCell (B? w.heap.size 3)<|D? f.d:=((((Only.refl (λad=>ad=w.heap.size) w1).set (.inl rfl) _).set (.inl rfl) _).set (.inl rfl) _).set (.inl rfl) _;have a1:=A? (Q.freed O L λi e=>by rw[e];exact B);have a2:=A?<|(a3.trans A).OL L λi e=>bbW;have a6:_=C! (Value.bool f.b):=z.cell 0;have a7:_=C! (Value.bool f.e):=z.cell 1;have a8:_=C! (Value.int .i64 f.seq):=z.cell 2;have a9:_=C! (Value.string f.d):=z.cell 3;go_wp2;exact V? (v:=.tuple #[.agg #[H? f.b,H? f.e,A! f.seq,D? f.d],A! 0]) (by simp[results,results176,go_sem,a6,a7,a8,a9]) rfl ⟨rfl,_,⟨_,a1⟩,a2⟩
theorem JZ(o:Int)(h:eC w G t b m)(r:acY m)(l:t≠[]):G! E? 176 #[ptr b,A! o] w (kO t b (bY m o).1 G w<|uh<|bY m o):=by
 cases i:au m.lanes o with
 |false=>exact R3 o h i
 |true=>
  by_cases s:(aL m o).waits=[]
  .by_cases n:(aL m o).drains=C?\/m.bB=[]
   .exact R4 o h i s n
   .obtain⟨x,h⟩:=h
    exact R5 o h r l i s (by cases e:(aL m o).drains with
     |true=>exact absurd (.inl e) n
     |false=>rfl) λe=>n (.inr e)
  .exact OJ o h i s
theorem SU{q:bh}{k:Int}(h:ia q)(o:(bY q k).2.2=0):au (bY q k).1.lanes k=C?/\(aL (bY q k).1 k).waits≠[]/\(bY q k).2.1=((aL (bY q k).1 k).waits.headD (eZ,0)).1:=by
 unfold bY at o|-;by_cases s:au q.lanes k=H!
 .rw[G? s]at o;cases o
 .have i:au q.lanes k=true:=by cases e:au q.lanes k with|true=>rfl|false=>exact absurd e s
  rw[F! s]at o|-;by_cases r:(aL q k).waits≠[]
  .rw[G? r];exact⟨i,r,rfl⟩
  .rw[F! r]at o|-;by_cases n:(aL q k).drains=C?\/q.bB=[]
   .rw[G? n]at o;cases o
   .rw[F! n];have l:(aL q k).drains=false:=by cases e:(aL q k).drains with|true=>exact absurd (.inl e) n|false=>rfl
    exact⟨by rw[JY h i l];exact i,yZ h i l λe=>n (.inr e),rfl⟩
def Hs(m:bh)(k n c:Int)(e:List<|bF×Int):bh:={m with lanes:=bI m.lanes k {aL m k with waits:=e},opn:=if c=0 then dB (bI m.opn n c) n else bI m.opn n c}
theorem aa0{q:bh}{k:Int}{f:bF}{n:Int}{ws:List (bF×Int)}(e:(bY q k).2.2=0)(o:(aL (bY q k).1 k).waits=(f,n)::ws):iR q k=(Hs (bY q k).1 k n ((bt (bY q k).1.opn n).getD 0-1) ws,(bY q k).2.1,0):=by
 unfold iR;dsimp only;rw[F!<|by rw[e];decide,o];rfl
theorem cN.vO{x:EM}(h:cN w G t b x m)(k:Int):
 (Instr.lookup 91 (.map<|C! x.mo) (A! k) H!).run E? w=.ok (A!<|(bt m.opn k).getD 0) w:=by
 rw[pg h.mo underlying91 underlying3 k (A! 0) π H!,qU];cases bt m.opn k<;>rfl
theorem cN.opens{x:EM}(h:cN w G t b x m){o:KV Int}(d:Only (λk=>k=x.mo) w w1)(f:bp w1 x.mo<|dY (λ_ n=>A! n) o):∃r,cN w1 r t b x {m with opn:=o}/\Step (aq t) G w r w1:=by
 let⟨g,j,y,v⟩:=h.ne;let⟨r,c,u⟩:=h.E8 (v':=x.v) (m':={m with opn:=o}) (d.mono λ_ _ e=>.inr (.inl e)) (h.blk.only d<|X? g) (h.IG.1.heap λi s=>d.block i (h.IG.2 i s).1 (v i s).2.1) (λi s=>.inl s) f (h.ml.only d<|X? y) λi l s=>s;exact⟨r,c,u⟩
theorem kO.result{r:I?}{R:Nat}(h:eC w1 G1 t b m)(f:Step (aq t) G w G1 w1)(g:t≠[])(c:G1 R=free)(u:w.heap.size<=R)(n s l d:I?):
 kO t b m G w r (.returned r) ((((w1.setCell (B? R 0) n).setCell (B? R 1) s).setCell (B? R 2) l).setCell (B? R 3) d):=by
 have o:Only (λi=>i=R) w1<|(((w1.setCell (B? R 0) n).setCell (B? R 1) s).setCell (B? R 2) l).setCell (B? R 3) d:=((((Only.refl (λk=>k=R) w1).set (.inl rfl) _).set (.inl rfl) _).set (.inl rfl) _).set (.inl rfl) _;obtain⟨x,h⟩:=h;exact⟨rfl,_,⟨x,h.freed g o λi e=>by rw[e];exact c⟩,f.OL o λi e=>by rw[e];exact u⟩
theorem Kj(l:Int)(h:eC w G t b m)(K:acY m)(ht:t≠[])(Q:∀k,-1099511627776<=(bt (bY m l).1.opn k).getD 0/\(bt (bY m l).1.opn k).getD 0<=1099511627776):
 G! E? 177 #[ptr b,A! l] w (kO t b (iR m l).1 G w<|uh<|iR m l):=by
 have a8:=aO.new w 228 xaa;have ac:K! w<|w.alloc (.cells xaa 228):=R!;have X:=Step.below (T:=λ_=>False) (G:=G) ac;have a7:=h.step X λ_ _ h=>h;have C:=A?<|JZ l a7 K ht;have a3:=A?<|X.mono (U:=aq t) λ_ h=>h.elim;have L:=A? a8;have D:E!<|grow G w.heap.size free w.heap.size=free:=A?<|fE G free O?;have a2:=A? λd=>SU (q:=m) (k:=l) K.g d;have W:=A? λf n ws d az=>aa0 (q:=m) (k:=l) (f:=f) (n:=n) (ws:=ws) d az;have F:E!<|(bY m l).2.2≠0->iR m l=((bY m l).1,eZ,(bY m l).2.2):=A? λd=>by unfold iR;dsimp only;rw[G? d]
 obtain⟨ap,aa⟩:=F?<|bY m l;rw[aa]at C a2 W F Q;obtain⟨b2,ab⟩:=F?<|iR m l;rw[ab]at W F|-;clear h a7 K X a8 ac aa ab;obtain⟨M,f,a6⟩:=ap;have Yl:=A? Q;clear Q;unfold ptr at*
 unfold uh at*
 go_in
 go_wp2_with fail;apply C.mono;rintro e w1 ⟨rfl,G1,⟨x,ag⟩,R⟩;have I:aO w1 w.heap.size 228 xaa:=R.heap L (by rw[D.out];exact aJ ht);have a9:=(R.old _ L.lt).trans D;have a4:=a3.trans R;have V:K! w1<|w1.alloc (.cells #[H? f.b,H? f.e,A! f.seq,D? f.d] 228):=R!;have J:=Step.below (T:=λ_=>False) (G:=G1) V;have H:=ag.step J λ_ _ h=>h;have A:=a4.trans<|J.mono (U:=aq t) λ_ h=>h.elim;have S:=I.below V;have E:=aO.new w1 228 #[H? f.b,H? f.e,A! f.seq,D? f.d];have Y:=(Fq G1 free I.lt).trans a9;have O:grow G1 w1.heap.size free w1.heap.size=free:=fE G1 free O?;have B:w.heap.size≠w1.heap.size:=by have:=I.lt;omega
 obtain⟨b1,a5⟩:=F?<|grow G1 w1.heap.size free;rw[a5]at H A Y O;obtain⟨am,av⟩:=F? w1.heap.size;rw[av]at E O B;obtain⟨y,b0⟩:=F?<|w1.alloc (.cells #[H? f.b,H? f.e,A! f.seq,D? f.d] 228);rw[b0]at H A S E;have HX:=A? H;have HST:=A? A;have HR2:=A? S;have HF2:=A? E;have HGR:=A? Y;have HGF:=A? O;have HRF:=A? B;have SC:E!<|w.heap.size<y.heap.size/\am<y.heap.size:=A? ⟨S.lt,E.lt⟩;clear ag R I a9 a4 V J H A S E Y O a5 B C a3 L D;by_cases d:a6=0
 .subst d;obtain⟨hkh,hwn,hff⟩:=a2 rfl;obtain⟨v,hv⟩:=HX.uK hkh
  obtain⟨⟨ar,n⟩,ws,Db⟩:∃a0 a1,(aL M l).waits=a0::a1:=by
   cases e:(aL M l).waits with
   |nil=>exact absurd e hwn
   |cons a0 a1=>exact⟨a0,a1,rfl⟩
  have hT:=W ar n ws rfl Db;have HT:=A? hT;obtain⟨g,o,j,rfl,ax,b5,ad,hcell⟩:=hv.row.1.cell hwn;have b4:=HX.blk.k 6;have ae:=HX.look l;rw[hkh,G? rfl]at ae;unfold ptr at ae;have al:=hv.blk.k 0;have b7:=hv.blk.frozen 0;have Z:=hcell 0 baJ 4 I!;simp only[Db,bcF,bbc,mdp]at Z;replace Z:J? y g (o+4) n:=Z;rw[Db,V!]at al ax
  have aaa:g≠x.f l:=λe=>by
   have z:=(hv.row.2 g rfl).2;rw[e,hv.tag]at z;simp at z
  have hbne:b≠x.f l:=λe=>by
   have z:=hv.tag;rw[<-e,HX.tag]at z;exact oV z.symm
  rcases(show j=1\/1<j from B!)with rfl|b6
  .obtain rfl:ws=[]:=y? B!;rw[l?,ξ]at al;have hrow:=hv.row.1;rw[Db]at hrow;have hq3:jd Jz (y.setCell (B? (x.f l) 0)<|J! (C!<|B? g o) 0 0) (J! (C!<|B? g o) 0 0) []:=(hrow.tail _ (.inl rfl)).heap λi u=>(ay y (x.f l) 0 _).block i (by cases u;exact ad) (by cases u;exact aaa);obtain⟨an,e1,e2⟩:=hv.E8 (v':=J! (C!<|B? g o) 0 0) (l':={aL M l with waits:=[]}) ((ay y (x.f l) 0<|J! (C!<|B? g o) 0 0).mono λ_ _ e=>.inl e) (hv.blk.set 0 _ rfl) hq3 λi u=>.inl u;exact nbW
  .have b3:¬j=1:=B!;have hrow:=hv.row.1;rw[Db]at hrow;have hq3:jd Jz (y.setCell (B? (x.f l) 0)<|J! (C!<|B? g<|o+5) ws.length<|j-1) (J! (C!<|B? g<|o+5) ws.length<|j-1) ws:=(hrow.tail _ (.inr rfl)).heap λi u=>(ay y (x.f l) 0 _).block i (by cases u;exact ad) (by cases u;exact aaa);obtain⟨an,e1,e2⟩:=hv.E8 (v':=J! (C!<|B? g<|o+5) ws.length<|j-1) (l':={aL M l with waits:=ws}) ((ay y (x.f l) 0<|J! (C!<|B? g<|o+5) ws.length<|j-1).mono λ_ _ e=>.inl e) (hv.blk.set 0 _ rfl) hq3 λi u=>.inl u;exact nbW
 .have ao:=A? (F d);have q:=ϒ.2 d;have r0:=HR2.cell 0;have r1:=HR2.cell 1;have r2:=HR2.cell 2;have r3:=HR2.cell 3;have z0:=HR2.frozen 0;have z1:=HR2.frozen 1;have z2:=HR2.frozen 2;have z3:=HR2.frozen 3;have tg:=((((HR2.set 0 (H? H!) rfl).set 1 (H? H!) rfl).set 2 (A! 0) rfl).set 3 (D? ⟨#[]⟩) rfl);have d0:_=C! (Value.bool H!):=tg.cell 0;have d1:_=C! (Value.bool H!):=tg.cell 1;have d2:_=C! (Value.int .i64 0):=tg.cell 2;have d3:_=C! (Value.string ⟨#[]⟩):=tg.cell 3;clear d tg;go_wp2_with fail;rw[ao.out];exact V? (v:=.tuple #[.agg xaa,A! a6]) nc6 rfl<|kO.result ⟨x,HX⟩ HST ht HGR O? _ _ _ _
