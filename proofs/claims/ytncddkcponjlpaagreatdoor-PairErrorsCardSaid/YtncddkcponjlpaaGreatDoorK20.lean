/- Walks and plain laws. -/
import Derived.Test.YtncddkcponjlpaaGreatDoorK19
set_option linter.unusedVariables false
set_option linter.unusedSimpArgs false
set_option maxHeartbeats 0
set_option maxRecDepth 99999
namespace Go.Proofs.YtncddkcponjlpaaGreatDoor
open Go.RowKit Go.Proofs.Tryz
open Go renaming World→D!,Value→I?,Calls→G!,IntKind→ncy
open Go.RowKit renaming Hid→E!
open Decidable renaming decide→K?
open Option renaming some→C!,none→L?
open Bool renaming true→C?,false→H!
open Go.Proofs.Tryz renaming prog→E?
variable{P:Prop}
theorem Za(w:D!):
 G! E? 211 #[Q!] w (S? w (.tuple #[D?<|bytesOf (cA []).1,A! (cA []).2])):=by
 have o:=λw=>qw Q! [] w<|aI.nil w;go_in;go_wp2_with fail;refine M! (o _) λw1 e=>?_;go_wp2_with fail;have r:jV w1.heap.size w1.heap.size []<|w1.alloc (.cells xai 102):=jV.new O?<|c! _ _;have n:K! w1<|w1.alloc (.cells xai 102):=R!;go_loopw[11] (λi wr=>i=A! 0/\jV w1.heap.size w1.heap.size [] wr/\K! w1 wr) (λ_ _=>0)
 case atStart=>exact⟨rfl,r,n⟩
 case round=>
  obtain⟨rfl,h,t⟩:=hrel;go_wp2_with fail;refine M! (AA _ _ _ _ h t.size) λl s=>?_;go_wp2;go_ret2;exact⟨rfl,e.trans<|(t.trans s).mono e.size⟩
theorem Zb(v:I?)(e:List bD)(w:D!)(h:aI w v e)(t:e.any gy=C?):
 G! E? 211 #[v] w (S? w (.tuple #[D?<|bytesOf (cA e).1,A! (cA e).2])):=by
 have Dt:=qw v e w h;rw[t]at Dt
 have HM:E! (cA e=([],400)):=A? (by
  unfold cA;rw[G? (by rw[show(e.any λo=>K? (o.1<0)||K? (255<o.1))=e.any gy from rfl,t])])
 rcases h.or with⟨rfl,rfl⟩|⟨g,o,c,rfl⟩
 .simp at t
 .clear h;exact nbf
theorem Co(v:I?)(e:List bD)(w:D!)(h:aI w v e):
 G! E? 211 #[v] w (S? w (.tuple #[D?<|bytesOf (cA e).1,A! (cA e).2])):=by
 by_cases t:e.any gy=C?
 .exact Zb v e w h t
 .rcases h.or with⟨rfl,rfl⟩|⟨g,o,c,rfl⟩
  .exact Za w
  .exact VJ g o c e w h<|z! _▸t
theorem NQ(c:Int)(w:D!):G! E? 190 #[A! c] w (T! w<|H?<|pX c):=by
 by_cases h:1<=c
 .have HC:E!<|pX c=K? (c<=4):=A? (by unfold pX;simp[h]);exact bak
 .have HC:E!<|pX c=false:=A? (by unfold pX;simp[h]);exact bak
theorem JE(c:Int)(w:D!):G! E? 212 #[A! c] w (T! w<|H?<|dw c):=by
 exact ncC
theorem VK(e:List bD):(cA e).2=0\/(cA e).2=400\/(cA e).2=401:=by
 unfold cA;split
 .simp
 .split<;>simp
theorem VL(e:List bD)(h:∀k,k<e.length->nY e k=H!):∀k,k<=e.length->(jh e k).length<=2048:=by
 intro k
 induction k with
 |zero=>intro _;simp[jh]
 |succ k o=>
  intro i;have t:=h k B!;rw[F8 e k B!]at t;simp at t;rw[D5 e k B!,X!,NP];have:=o B!;omega
theorem yO(t:List bD):(cA t).1.length<=2048:=by
 unfold cA;split
 .simp
 .split
  .simp
  .rename_i n o;refine VL t (λk i=>?_) _ O?;cases e:nY t k with
   |false=>rfl
   |true=>exact absurd (ϋ.2 ⟨k,List.mem_range.2 i,e⟩) o
theorem Zc(c i:Int)(n:Nat)(o:n<=2048):
 strOfNums [c,i,(n:Int)/256,(n:Int)%256]=bytesOf [UInt8.ofNat c.toNat,UInt8.ofNat i.toNat,UInt8.ofNat<|n/256,UInt8.ofNat<|n%256]:=by
 have e:((n:Int)/256).toNat=n/256:=B!;have t:((n:Int)%256).toNat=n%256:=B!;rw[rH];simp only[i?,y!,e,t]
theorem Rf(v:I?)(t i:Int)(s:List bD)(o:ByteArray)(w:D!)(l:List UInt8)(e:Int)(u r d:Bool)
 (hput:∀w,aI w v s->G! E? 211 #[v] w (S? w (.tuple #[D?<|bytesOf l,A! e])))
 (hcf:∀w,G! E? 190 #[A! t] w (T! w<|H? u))
 (ho1:∀w,G! E? 212 #[A! t] w (T! w<|H? r))
 (ho2:∀w,G! E? 212 #[A! i] w (T! w<|H? d))
 (h:aI w v s)(m:r=C?)(g:d=C?)(y:e=0)(T:ByteArray)(q:bytesOf l++o=T)(z:¬9223372036854775807<(bytesOf l).size+o.size)(O:T.size<=4611686018427390000)(b:u=H!)(j:s=[])(A:2044<T.size):
 G! E? 166 #[.agg #[A! t,A! i,v,D? o]] w (S? w (.tuple #[D?<|ByteArray.empty,A! 503])):=by
 subst m g;subst y;have I:IntKind.i64.wrap (4+(T.size:Int))=4+(T.size:Int):=ϫ _ B!;have E:(2048:Int)<4+(T.size:Int):=B!;subst b j;obtain⟨n,c,rfl,_,_⟩:=aD.form h;simp only[l?]at h hput|-;have hbx:K! w<|w.alloc (.cells #[A! t,A! i,J! n 0 c,D? o] 220):=R!;have pre:=h.below hbx;have d0:=j! w #[A! t,A! i,J! n 0 c,D? o] 220 0;have d1:=j! w #[A! t,A! i,J! n 0 c,D? o] 220 1;have d2:=j! w #[A! t,A! i,J! n 0 c,D? o] 220 2;have d3:=j! w #[A! t,A! i,J! n 0 c,D? o] 220 3;exact ncN
theorem ed(w:D!)(t u:TypeId)(e o:Array I?):aO ((w.alloc (.cells e t)).alloc (.cells o u)) w.heap.size t e/\aO ((w.alloc (.cells e t)).alloc (.cells o u)) (w.heap.size+1) u o:=by
 refine⟨(baf (w.alloc _) _ w.heap.size N!).trans<|c! w _,?_⟩;have h:=c! (w.alloc (.cells e t)) (.cells o u);rw[show(w.alloc (.cells e t)).heap.size=w.heap.size+1 from N!]at h;exact h
def pP(r:bg×Int)(w:D!)(e:Ending)(t:D!):Prop:=∃v,e=.returned (.tuple #[.agg<|cm r.1 v,A! r.2])/\bq dS t w.heap.size v r.1.opts/\K! w t
theorem pP.zero{r:bg×Int}{n:Int}{w e:D!}(h:r=(pE,n))(t:K! w e):pP r w (.returned (.tuple #[.agg xac,A! n])) e:=by
 subst h;exact⟨Q!,rfl,bq.nil _ _ _,t⟩
theorem Xg(l:List UInt8)(w:D!)(h:l.length<4):G! E? 157 #[D?<|bytesOf l] w (pP (dx l) w):=by
 have e:E!<|dx l=(pE,500):=A? (by unfold dx;rw[G? h]);have o:=aA l;have t:K? ((l.length:Int)<4)=true:=b! B!;go_wp2;exact V? (v:=.tuple #[.agg xac,A! 500]) na5 rfl<|pP.zero e R!
section
variable(c0 c1 c2 c3:UInt8)(r:List UInt8)(w:D!)(hr:r.length<=4611686018427387904)
include c0 c1 c2 c3 r w hr
theorem aaO(h:cB (c0::c1::c2::c3::r)<4\/r.length+4<cB (c0::c1::c2::c3::r)):
 G! E? 157 #[D?<|bytesOf (c0::c1::c2::c3::r)] w (pP (dx (c0::c1::c2::c3::r)) w):=by
 have e:E! (dx (c0::c1::c2::c3::r)=(pE,501)):=A? (by
  unfold dx;rw[F! mc5,G?];simp only[V!];omega)
 let⟨g,d,c,u,m,i,n,s,l,o,t⟩:=CI c0 c1 c2 c3 r;generalize cB (c0::c1::c2::c3::r)=N at o t h;have f:K? ((r.length:Int)+4<4)=false:=W? B!;have H:=A? h;go_wp2;go_region;go_wp2_with fail
 all_goals first
  |(exfalso;have:=H.out;omega)
  |exact V? (v:=.tuple #[.agg xay,.int .i64 501]) na5 rfl (pP.zero e ϕ)
theorem Xh(h:¬(cB (c0::c1::c2::c3::r)<4\/r.length+4<cB (c0::c1::c2::c3::r))):
 G! E? 157 #[D?<|bytesOf (c0::c1::c2::c3::r)] w (pP (dx (c0::c1::c2::c3::r)) w):=by
 have HM:E! (dx (c0::c1::c2::c3::r)=if 2048<cB (c0::c1::c2::c3::r)then(pE,503)else if pX (c0.toNat:Int)=H! then(⟨(c0.toNat:Int),(c1.toNat:Int),[],bytesOf (lZ c0 c1 c2 c3 r)⟩,0)
  else if(dO (lZ c0 c1 c2 c3 r)).2≠0 then(pE,502)else(⟨(c0.toNat:Int),(c1.toNat:Int),(dO (lZ c0 c1 c2 c3 r)).1,⟨#[]⟩⟩,0)):=A? (by
  unfold dx ko;have Z:¬(c0::c1::c2::c3::r).length<4:=mc5;have a0:¬(cB (c0::c1::c2::c3::r)<4\/(c0::c1::c2::c3::r).length<cB (c0::c1::c2::c3::r)):=h;rw[F! Z,F! a0];rfl)
 let⟨b4,av,ax,az,b0,ae,al,an,ap,a7,a2⟩:=CI c0 c1 c2 c3 r;have V:=DA (c0:=c0) (c1:=c1) (c2:=c2) (c3:=c3) (r:=r) B! B!;have F:=pM (c0::c1::c2::c3::r) 4<|cB (c0::c1::c2::c3::r);rw[show List.drop 4 _=lZ c0 c1 c2 c3 r from rfl]at F;have A:=λw=>GK (lZ c0 c1 c2 c3 r) w B!;generalize cB (c0::c1::c2::c3::r)=N at a7 a2 h V F HM;generalize lZ c0 c1 c2 c3 r=R at V F HM A;have b5:=aA R;have b3:K? ((r.length:Int)+4<4)=false:=W? B!;have b1:¬N<4:=B!;have b2:¬r.length+4<N:=B!;have j:=λw=>NQ (c0.toNat:Int) w;generalize dx (c0::c1::c2::c3::r)=ad at HM|-;by_cases X:2048<N
 .rw[G? X]at HM;go_wp2;go_region;go_wp2;exact V? (v:=.tuple #[.agg xac,A! 503]) na5 rfl<|pP.zero HM ϕ
 rw[F! X]at HM;cases B:pX (c0.toNat:Int)
 .rw[B]at j HM;rw[G? rfl]at HM;go_wp2;go_region;go_wp2;go_region;go_wp2_with fail;apply(j _).mono;rintro e a8 ⟨rfl,rfl⟩;go_wp2;refine V? (v:=.tuple #[.agg<|cm ⟨(c0.toNat:Int),(c1.toNat:Int),[],bytesOf R⟩ Q!,A! 0]) (by simp[results,results157,go_sem,cm]) rfl ⟨Q!,ϯ,mbC,ϕ⟩
 .rw[B]at j HM;rw[F! I!]at HM;generalize dO R=a6 at A HM;obtain⟨l,a1⟩:=a6;by_cases M:a1=0
  .subst M;rw[F!<|λe=>e rfl]at HM;have I:=A? A;go_wp2;go_region;go_wp2;go_region;go_wp2_with fail;apply(j _).mono;rintro e a8 ⟨rfl,rfl⟩;go_wp2_with fail;let⟨W,hW⟩:=F?<|((w.alloc (.cells xac 220)).alloc (.cells #[A! (c0.toNat:Int),A! (c1.toNat:Int),Q!,D? ⟨#[]⟩] 220)).drew.drew;have m:K! w W:=maO
   have C:aO W w.heap.size 220 xac:=by
    rw[<-hW];exact(ed _ _ _ _ _).1
   have G:aO W (w.heap.size+1) 220 #[A! (c0.toNat:Int),A! (c1.toNat:Int),Q!,D? ⟨#[]⟩]:=by
    rw[<-hW];exact(ed _ _ _ _ _).2
   rw[hW];apply(I _).mono;rintro e w1 ⟨v,rfl,z,g⟩;have n:=C.below g;have E:=G.below g;have O:=m.trans<|g.mono m.size;have a5:=z.base m.size;obtain⟨d,u,rfl,-,-⟩:=aD.form z.at
   have K:∀k,(Value.slice d l.length u).ownBlock=C! k->k≠w.heap.size/\k≠w.heap.size+1:=λk y=>by
    have:=z.block k y;have:=G.lt;omega
   have Y:Only (λk=>k=w.heap.size+1\/k=w.heap.size) w1<|((((w1.setCell (B? (w.heap.size+1) 2)<|J! d l.length u).setCell (B? w.heap.size 0)<|A! (c0.toNat:Int)).setCell (B? w.heap.size 1)<|A! (c1.toNat:Int)).setCell (B? w.heap.size 2)<|J! d l.length u).setCell (B? w.heap.size 3)<|D? ⟨#[]⟩:=
    (((((Only.refl _ w1).set (.inl (.inl rfl)) _).set (.inl (.inr rfl)) _).set (.inl (.inr rfl)) _).set (.inl (.inr rfl)) _).set (.inl (.inr rfl)) _
   have a3:K! w<|((((w1.setCell (B? (w.heap.size+1) 2)<|J! d l.length u).setCell (B? w.heap.size 0)<|A! (c0.toNat:Int)).setCell (B? w.heap.size 1)<|A! (c1.toNat:Int)).setCell (B? w.heap.size 2)<|J! d l.length u).setCell (B? w.heap.size 3)<|D? ⟨#[]⟩:=
    O.trans (Y.below O.size<|λk y=>by rcases y with rfl|rfl<;>omega)
   have J:=A?<|And.intro a3<|a5.only Y<|λk y a4=>by rcases a4 with e|e;exact(K k y).2 e;exact(K k y).1 e
   have S:=n.k 0;have H:=n.k 1;have L:=n.k 2;have D:=n.k 3;have ag:=E.k 0;have am:=E.k 1;have ao:=E.k 2;have ar:=E.k 3;have a9:=n.frozen 0;have aa:=n.frozen 1;have ab:=n.frozen 2;have ac:=n.frozen 3;have b6:=E.frozen 2;go_wp2;refine V? (v:=.tuple #[.agg<|cm ⟨(c0.toNat:Int),(c1.toNat:Int),l,⟨#[]⟩⟩<|J! d l.length u,A! 0]) (by simp[results,results157,go_sem,cm,S,H,L,D]) rfl ⟨_,ϯ,by rw[HM.out];exact J.2,J.1⟩
  .rw[G? M]at HM;have q:=ϒ.2 M;have I:=A? A;go_wp2;go_region;go_wp2;go_region;go_wp2_with fail;refine d! (j _) ?_;go_wp2_with fail;let⟨W,hW⟩:=F?<|((w.alloc (.cells xac 220)).alloc (.cells #[A! (c0.toNat:Int),A! (c1.toNat:Int),Q!,D? ⟨#[]⟩] 220)).drew.drew;have m:K! w W:=maO
   have C:aO W w.heap.size 220 xac:=by
    rw[<-hW];exact(ed _ _ _ _ _).1
   rw[hW];apply(I _).mono;rintro e w1 ⟨v,rfl,z,g⟩;have n:=C.below g;have O:=m.trans<|g.mono m.size;obtain⟨d,u,rfl,-,-⟩:=aD.form z.at;have S:=n.k 0;have H:=n.k 1;have L:=n.k 2;have D:=n.k 3;have a9:=n.frozen 0;have aa:=n.frozen 1;have ab:=n.frozen 2;have ac:=n.frozen 3;go_wp2;exact V? (v:=.tuple #[.agg xac,A! 502]) (by simp[results,results157,go_sem,S,H,L,D]) rfl<|pP.zero HM<|(((O.setCell O? _).setCell O? _).setCell O? _).setCell O? _
end
theorem aaP(l:List UInt8)(w:D!)(hl:l.length<=4611686018427387904):G! E? 157 #[D?<|bytesOf l] w (pP (dx l) w):=by
 by_cases h:l.length<4
 .exact Xg l w h
 match l,h,hl with
 |t::o::i::n::r,_,hl=>
  have d:r.length<=4611686018427387904:=maC;by_cases s:cB (t::o::i::n::r)<4\/r.length+4<cB (t::o::i::n::r)
  .exact aaO t o i n r w d s
  .exact Xh t o i n r w d s
 |[],e,_=>simp at e
 |[_],e,_=>simp at e
 |[_,_],e,_=>simp at e
 |[_,_,_],e,_=>simp at e
def iC(b:cR)(v:I?):Array Value:= #[A! b.code,A! b.id,A! b.answer,v]
def nG(r:cR×Int)(w:D!)(e:Ending)(t:D!):Prop:=∃v,e=.returned (.tuple #[.agg<|iC r.1 v,A! r.2])/\bq dS t w.heap.size v r.1.opts/\K! w t
theorem nG.zero{r:cR×Int}{n:Int}{w e:D!}(h:r=(sK,n))(t:K! w e):nG r w (.returned (.tuple #[.agg xae,A! n])) e:=by
 subst h;exact⟨Q!,rfl,bq.nil _ _ _,t⟩
theorem Xj(l:List UInt8)(w:D!)(h:l.length<4):G! E? 163 #[D?<|bytesOf l] w (nG (dK l) w):=by
 have e:E!<|dK l=(sK,900):=A? (by unfold dK;rw[G? h]);have o:=aA l;have t:K? ((l.length:Int)<4)=true:=b! B!;go_wp2;exact V? (v:=.tuple #[.agg xae,A! 900]) (by simp[results,results163,go_sem]) rfl<|nG.zero e R!
section
variable(c0 c1 c2 c3:UInt8)(r:List UInt8)(w:D!)(hr:r.length<=4611686018427387904)
include c0 c1 c2 c3 r w hr
theorem Xk(hv:fS (c0.toNat:Int)=H!)(h:eV (c0.toNat:Int) (c1.toNat:Int)=H!\/cB (c0::c1::c2::c3::r)<4\/r.length+4<cB (c0::c1::c2::c3::r)):
 G! E? 163 #[D?<|bytesOf (c0::c1::c2::c3::r)] w (nG (dK (c0::c1::c2::c3::r)) w):=by
 exact naO
theorem SJ(hv:fS (c0.toNat:Int)=H!)(h:¬(eV (c0.toNat:Int) (c1.toNat:Int)=H!\/cB (c0::c1::c2::c3::r)<4\/r.length+4<cB (c0::c1::c2::c3::r))):
 G! E? 163 #[D?<|bytesOf (c0::c1::c2::c3::r)] w (nG (dK (c0::c1::c2::c3::r)) w):=by
 let⟨R,hR⟩:=F?<|((c0::c1::c2::c3::r).take<|cB (c0::c1::c2::c3::r)).drop 4;have D:=pM (c0::c1::c2::c3::r) 4<|cB (c0::c1::c2::c3::r);rw[hR]at D
 have K:R.length+4=cB (c0::c1::c2::c3::r):=by
  rw[<-hR,Φ,w!];simp only[V!];omega
 have HM:E! (dK (c0::c1::c2::c3::r)=if(dO R).2=400 then(sK,900)else if 2048<cB (c0::c1::c2::c3::r)then(sK,901)else(⟨(c0.toNat:Int),(c1.toNat:Int),0,(dO R).1⟩,0)):=A? (by
  exact nbI)
 have S:=λw=>GK R w nbZ;let⟨ao,ac,ad,ae,ag,a5,a6,a7,a8,Z,Y⟩:=CI c0 c1 c2 c3 r;let⟨N,O⟩:=F?<|cB (c0::c1::c2::c3::r);rw[O]at Z Y h;rw[O]at K D HM;have ap:=aA R;generalize dK (c0::c1::c2::c3::r)=a4 at HM|-;have f:=A? λw=>qy (c0.toNat:Int) (c1.toNat:Int) w;have I:=A? λw=>sZ (c0.toNat:Int) (c1.toNat:Int) w;rw[hv]at f
 have y:eV (c0.toNat:Int) (c1.toNat:Int)=true:=by
  cases y:eV (c0.toNat:Int) (c1.toNat:Int)
  .exact absurd (.inl y) h
  .rfl
 rw[y]at I;have an:K? ((r.length:Int)+4<4)=false:=W? B!;have al:¬N<4:=λe=>h (.inr (.inl e));have am:¬r.length+4<N:=λe=>h (.inr (.inr e));have a9:K? ((N:Int)<4)=false:=W? B!;have aa:K? ((r.length:Int)+4<(N:Int))=false:=W? B!;have u0:(0:Int)<(r.length:Int)+4:=B!;have u1:(1:Int)<(r.length:Int)+4:=B!;have u2:(2:Int)<(r.length:Int)+4:=B!;have u3:(3:Int)<(r.length:Int)+4:=B!;generalize dO R=Q at S HM;obtain⟨m,G⟩:=Q;have F:=A? S;go_wp2;go_region;go_wp2;go_region;go_wp2_with fail;let⟨W,hW⟩:=F?<|((w.alloc (.cells xae 157)).alloc (.cells #[A! (c0.toNat:Int),A! (c1.toNat:Int),A! 0] 280)).drew.drew;have u:K! w W:=maO;have n:aO W w.heap.size 157 xae:=bay;have l:aO W (w.heap.size+1) 280 #[A! (c0.toNat:Int),A! (c1.toNat:Int),A! 0]:=bbE;rw[hW];refine M! (f _) λw1 d=>?_;replace n:=n.below d;replace l:=l.below d;replace u:=u.trans<|d.mono u.size;have H:=l.k 0;have L:=l.k 1;go_wp2_with fail;refine M! (I _) λar d=>?_;replace n:=n.below d;replace l:=l.below d;replace u:=u.trans<|d.mono u.size;have H:=l.k 0;have L:=l.k 1;go_wp2_with fail;refine M! (f _) λav d=>?_;replace n:=n.below d;replace l:=l.below d;replace u:=u.trans<|d.mono u.size;go_wp2_with fail;apply(F _).mono;rintro e A ⟨v,rfl,j,d⟩;have J:=j.base u.size;obtain⟨z,E,rfl,-,-⟩:=aD.form j.at
 have X:∀k,(Value.slice z m.length E).ownBlock=C! k->k≠w.heap.size:=λk V=>by
  have:=j.block k V;have:=n.lt;omega
 replace n:=n.below d;replace l:=l.below d;replace u:=u.trans<|d.mono u.size;have HB:=A? u;have a0:=n.k 0;have a1:=n.k 1;have a2:=n.k 2;have a3:=n.k 3;have ax:=n.frozen 0;have az:=n.frozen 1;have b0:=n.frozen 2;have b1:=n.frozen 3;by_cases g:G=400
 .subst g;exact ncd
 .have q:=Q?.2 g;rw[F!<|by exact g]at HM;by_cases C:2048<N
  .rw[G? C]at HM;exact nbx
  .rw[F! C]at HM;have H:=l.k 0;have L:=l.k 1;have ab:=l.k 2;have B:Only (· =w.heap.size) A<|(((A.setCell (B? w.heap.size 0)<|A! (c0.toNat:Int)).setCell (B? w.heap.size 1)<|A! (c1.toNat:Int)).setCell (B? w.heap.size 2)<|A!<|0).setCell (B? w.heap.size 3)<|J! z m.length E:=((((Only.refl (λk=>k=w.heap.size) A).set (.inl rfl) _).set (.inl rfl) _).set (.inl rfl) _).set (.inl rfl) _;have M:=A?<|J.only B X;go_wp2;exact V? (v:=.tuple #[.agg<|iC ⟨(c0.toNat:Int),(c1.toNat:Int),(0),m⟩<|J! z m.length E,A! 0]) nbq rfl ⟨_,ϯ,by rw[HM.out];exact M,(((HB.setCell O? _).setCell O? _).setCell O? _).setCell O? _⟩
theorem Xl(hv:fS (c0.toNat:Int)=C?)(h:eV (c0.toNat:Int) (c1.toNat:Int)=H!\/cB (c0::c1::c2::c3::r)<5\/r.length+4<cB (c0::c1::c2::c3::r)):
 G! E? 163 #[D?<|bytesOf (c0::c1::c2::c3::r)] w (nG (dK (c0::c1::c2::c3::r)) w):=by
 exact naO
theorem SK(hv:fS (c0.toNat:Int)=C?)(h:¬(eV (c0.toNat:Int) (c1.toNat:Int)=H!\/cB (c0::c1::c2::c3::r)<5\/r.length+4<cB (c0::c1::c2::c3::r))):
 G! E? 163 #[D?<|bytesOf (c0::c1::c2::c3::r)] w (nG (dK (c0::c1::c2::c3::r)) w):=by
 let⟨R,hR⟩:=F?<|((c0::c1::c2::c3::r).take<|cB (c0::c1::c2::c3::r)).drop 5;have M:=pM (c0::c1::c2::c3::r) 5<|cB (c0::c1::c2::c3::r);rw[hR]at M
 have a5:R.length+5=cB (c0::c1::c2::c3::r):=by
  rw[<-hR,Φ,w!];simp only[V!];omega
 have HM:E! (dK (c0::c1::c2::c3::r)=if(dO R).2=400 then(sK,900)else if 2048<cB (c0::c1::c2::c3::r)then(sK,901)else(⟨(c0.toNat:Int),(c1.toNat:Int),(((c0::c1::c2::c3::r).getD 4 0).toNat:Int),(dO R).1⟩,0)):=A? (by
  exact nbI)
 have L:=λw=>GK R w nbZ;let⟨b3,ap,ar,av,ax,ad,ae,ag,al,aa,J⟩:=CI c0 c1 c2 c3 r;let⟨N,S⟩:=F?<|cB (c0::c1::c2::c3::r);rw[S]at aa J h;rw[S]at a5 M HM;have b4:=aA R;have a7:1<=r.length:=B!
 have X:∀h,(bytesOf (c0::c1::c2::c3::r))[4]'h=r.getD 0 0:=λb2=>by
  cases r with
  |nil=>simp at a7
  |cons a r=>rfl
 have V:(c0::c1::c2::c3::r).getD 4 0=r.getD 0 0:=rfl;rw[V]at HM;generalize r.getD 0 0=m at HM X;have am:=m.toNat_lt;have b5:(4:Int)<(r.length:Int)+4:=B!;generalize dK (c0::c1::c2::c3::r)=ab at HM|-;have g:=A? λw=>qy (c0.toNat:Int) (c1.toNat:Int) w;have H:=A? λw=>sZ (c0.toNat:Int) (c1.toNat:Int) w;rw[hv]at g
 have j:eV (c0.toNat:Int) (c1.toNat:Int)=true:=by
  cases j:eV (c0.toNat:Int) (c1.toNat:Int)
  .exact absurd (.inl j) h
  .rfl
 rw[j]at H;have b1:K? ((r.length:Int)+4<4)=false:=W? B!;have az:¬N<5:=λe=>h (.inr (.inl e));have b0:¬r.length+4<N:=λe=>h (.inr (.inr e));have an:K? ((N:Int)<5)=false:=W? B!;have ao:K? ((r.length:Int)+4<(N:Int))=false:=W? B!;have u0:(0:Int)<(r.length:Int)+4:=B!;have u1:(1:Int)<(r.length:Int)+4:=B!;have u2:(2:Int)<(r.length:Int)+4:=B!;have u3:(3:Int)<(r.length:Int)+4:=B!;generalize dO R=a9 at L HM;obtain⟨f,K⟩:=a9;have Y:=A? L;go_wp2;go_region;go_wp2;go_region;go_wp2_with fail;let⟨W,hW⟩:=F?<|((w.alloc (.cells xae 157)).alloc (.cells #[A! (c0.toNat:Int),A! (c1.toNat:Int),A! 0] 280)).drew.drew;have d:K! w W:=maO;have n:aO W w.heap.size 157 xae:=bay;have l:aO W (w.heap.size+1) 280 #[A! (c0.toNat:Int),A! (c1.toNat:Int),A! 0]:=bbE;rw[hW];refine M! (g _) λw1 u=>?_;replace n:=n.below u;replace l:=l.below u;replace d:=d.trans<|u.mono d.size;have D:=l.k 0;have C:=l.k 1;go_wp2_with fail;refine M! (H _) λb6 u=>?_;replace n:=n.below u;replace l:=l.below u;replace d:=d.trans<|u.mono d.size;have D:=l.k 0;have C:=l.k 1;go_wp2_with fail;refine M! (g _) λO u=>?_;replace n:=n.below u;replace l:=l.below u;replace d:=d.trans<|u.mono d.size;have B:=l.k 2;have b7:=l.frozen 2;go_wp2_with fail;let⟨ac,Z⟩:=F?<|O.setCell (B? (w.heap.size+1) 2)<|A! (m.toNat:Int);replace n:=n.only (ay O (w.heap.size+1) 2<|A! (m.toNat:Int)) B!;replace l:=l.set 2 (A! (m.toNat:Int)) (cs':= #[A! (c0.toNat:Int),A! (c1.toNat:Int),A! (m.toNat:Int)]) rfl;replace d:K! w<|O.setCell (B? (w.heap.size+1) 2)<|A! (m.toNat:Int):=d.setCell (ϗ _) _;rw[Z]at n l d|-;apply(Y _).mono;rintro e I ⟨v,rfl,z,u⟩;have a8:=z.base d.size;obtain⟨E,A,rfl,-,-⟩:=aD.form z.at
 have a6:∀k,(Value.slice E f.length A).ownBlock=C! k->k≠w.heap.size:=λk a4=>by
  have:=z.block k a4;have:=n.lt;omega
 replace n:=n.below u;replace l:=l.below u;replace d:=d.trans<|u.mono d.size;have HB:=A? d;have a0:=n.k 0;have a1:=n.k 1;have a2:=n.k 2;have a3:=n.k 3;have b8:=n.frozen 0;have b9:=n.frozen 1;have ba:=n.frozen 2;have bc:=n.frozen 3;by_cases y:K=400
 .subst y;exact ncd
 .have q:=Q?.2 y;rw[F!<|by exact y]at HM;by_cases F:2048<N
  .rw[G? F]at HM;exact nbx
  .rw[F! F]at HM;have D:=l.k 0;have C:=l.k 1;have B:=l.k 2;have Q:Only (· =w.heap.size) I<|(((I.setCell (B? w.heap.size 0)<|A! (c0.toNat:Int)).setCell (B? w.heap.size 1)<|A! (c1.toNat:Int)).setCell (B? w.heap.size 2)<|A! (m.toNat:Int)).setCell (B? w.heap.size 3)<|J! E f.length A:=((((Only.refl (λk=>k=w.heap.size) I).set (.inl rfl) _).set (.inl rfl) _).set (.inl rfl) _).set (.inl rfl) _;have G:=A?<|a8.only Q a6;go_wp2;exact V? (v:=.tuple #[.agg<|iC ⟨(c0.toNat:Int),(c1.toNat:Int),(m.toNat:Int),f⟩<|J! E f.length A,A! 0]) nbq rfl ⟨_,ϯ,by rw[HM.out];exact G,(((HB.setCell O? _).setCell O? _).setCell O? _).setCell O? _⟩
end
theorem aaQ(l:List UInt8)(w:D!)(hl:l.length<=4611686018427387904):G! E? 163 #[D?<|bytesOf l] w (nG (dK l) w):=by
 by_cases h:l.length<4
 .exact Xj l w h
 match l,h,hl with
 |e::t::o::i::r,_,hl=>
  have d:r.length<=4611686018427387904:=maC;cases c:fS (e.toNat:Int)
  .by_cases s:eV (e.toNat:Int) (t.toNat:Int)=H!\/cB (e::t::o::i::r)<4\/r.length+4<cB (e::t::o::i::r)
   .exact Xk e t o i r w d c s
   .exact SJ e t o i r w d c s
  .by_cases s:eV (e.toNat:Int) (t.toNat:Int)=H!\/cB (e::t::o::i::r)<5\/r.length+4<cB (e::t::o::i::r)
   .exact Xl e t o i r w d c s
   .exact SK e t o i r w d c s
 |[],n,_=>simp at n
 |[_],n,_=>simp at n
 |[_,_],n,_=>simp at n
 |[_,_,_],n,_=>simp at n
def zq(b:cR):Prop:=eV b.code b.id=H!\/b.answer<0\/255<b.answer\/(fS b.code=H!/\b.answer≠0)\/(cA b.opts).2≠0
theorem Hj{b:cR}(h:zq b):dJ b=([],900):=by
 unfold dJ;rw[G?];rcases h with h|h|h|h|h
 .exact .inl h
 .exact .inr (.inl<|by unfold dw;simp;omega)
 .exact .inr (.inl<|by unfold dw;simp;omega)
 .exact .inr (.inr (.inl h))
 .exact .inr (.inr (.inr h))
theorem Ev{b:cR}(h:¬zq b):dJ b=if 2048<4+((if fS b.code then[aE b.answer]else[])++(cA b.opts).1).length then([],901)else([aE b.code,aE b.id,aE ((4+((if fS b.code then[aE b.answer]else[])++(cA b.opts).1).length:Nat)/256:Int),aE (4+((if fS b.code then[aE b.answer]else[])++(cA b.opts).1).length:Nat)]++((if fS b.code then[aE b.answer]else[])++(cA b.opts).1),0):=by
 have t:¬(eV b.code b.id=H!\/dw b.answer=H!\/(fS b.code=H!/\b.answer≠0)\/(cA b.opts).2≠0):=by
  rintro(e|e|e|e)
  .exact h (.inl e)
  .have:b.answer<0\/255<b.answer:=by unfold dw at e;simp at e;omega
   rcases this with e|e
   .exact h (.inr (.inl e))
   .exact h (.inr (.inr (.inl e)))
  .exact h (.inr (.inr (.inr (.inl e))))
  .exact h (.inr (.inr (.inr (.inr e))))
 unfold dJ;rw[F! t]
section
variable(b:cR)(v:I?)(w:D!)(hv:aI w v b.opts)
include b v w hv
theorem aaR(h:zq b):
 G! E? 218 #[.agg<|iC b v] w (S? w<|kz<|dJ b):=by
 have HM:=A?<|Hj h;obtain⟨u,f,y,g⟩:=b;obtain⟨j,z,rfl,X,J⟩:=aD.form hv;generalize dJ ⟨u,f,y,g⟩=R at HM|-;have E:=A? λw h=>Co (J! j g.length z) g w h;have O:=A? λw=>sZ u f w;have A:=A? λw=>qy u f w;let⟨Y,G⟩:=F?<|eV u f;let⟨S,F⟩:=F?<|fS u;let⟨P,M⟩:=F?<|cA g;unfold zq at h;simp only at h hv;rw[G]at h O;rw[F]at h A;rw[M]at h E;obtain⟨T,k⟩:=P;have H:=A? h;unfold iC
 have L:(k !=0)=C?\/k=0:=by
  by_cases e:k=0
  .exact .inr e
  .exact .inl<|ϒ.2 e
 rcases L with L|rfl<;>cases Y<;>cases S
 all_goals
  go_in
  go_wp2_with fail;let⟨W,hW⟩:=F?<|(w.alloc (.cells #[A! u,A! f,A! y,J! j g.length z] 157)).alloc (.cells #[A! u,A! f,A! y] 280);have l:K! w W:=md3;have m:aO W w.heap.size 157 #[A! u,A! f,A! y,J! j g.length z]:=bay;have n:aO W (w.heap.size+1) 280 #[A! u,A! f,A! y]:=bbE;have B:=hv.below l;rw[hW];refine M! (E _ B) λw1 d=>?_;replace m:=m.below d;replace n:=n.below d;replace l:=l.trans<|d.mono l.size;have I:=n.k 0;have N:=n.k 1;go_wp2_with fail;refine M! (O _) λV d=>?_;replace m:=m.below d;replace n:=n.below d;replace l:=l.trans<|d.mono l.size;have I:=n.k 0;have N:=n.k 1;have C:=m.k 2;have D:=n.k 2;go_wp2_with(go_at_call 201;refine M! (A _) λK d=>?_;replace m:=m.below d;replace n:=n.below d;replace l:=l.trans<|d.mono l.size;have C:=m.k 2;have D:=n.k 2;have I:=n.k 0;have N:=n.k 1)
  all_goals first
   |(exfalso;have:=H.out;simp at this;omega)
   |(exfalso;have:=H.out;simp at this;done)
   |(exfalso;have:=H.out;simp_all;done)
   |(go_ret2;exact⟨ba3,l⟩)
theorem SL(h:¬zq b)(g:fS b.code=H!):
 G! E? 218 #[.agg<|iC b v] w (S? w<|kz<|dJ b):=by
 have HM:=A?<|Ev h;rw[g]at HM;obtain⟨n,l,m,u⟩:=b;obtain⟨k,j,rfl,a0,a1⟩:=aD.form hv;generalize dJ ⟨n,l,m,u⟩=R at HM|-;have f:=A? λw h=>Co (J! k u.length j) u w h;have E:=A? λw=>sZ n l w;have HR:=A? λw=>qy n l w;let⟨Y,M⟩:=F?<|eV n l;let⟨P,I⟩:=F?<|cA u;simp only at g hv HM;rw[g]at HR;have A:=yO u
 have y:eV n l=true:=by
  cases e:eV n l
  .exact absurd (.inl e) h
  .rfl
 have F:0<=m:=by
  by_cases e:m<0
  .exact absurd (.inr (.inl e)) h
  .omega
 have G:m<=255:=by
  by_cases e:255<m
  .exact absurd (.inr (.inr (.inl e))) h
  .omega
 have N:m=0:=by
  by_cases e:m=0
  .exact e
  .exact absurd (.inr (.inr (.inr (.inl ⟨g,e⟩)))) h
 have S:(cA u).2=0:=by
  by_cases e:(cA u).2=0
  .exact e
  .exact absurd (.inr (.inr (.inr (.inr e)))) h
 rw[y]at E;rw[S]at f;obtain⟨B,V,K,X⟩:1<=n/\n<=8/\0<=l/\l<=255:=by unfold eV dw at y;simp at y;omega
 rw[I]at f HM A;obtain⟨P,C⟩:=P;simp only at f HM A;subst N;unfold iC;have J:=aA P;have D:=Nr;have Q:∀a b c d:Int,(strOfNums [a,b,c,d]).size=4:=λa b c d=>ν _;have z:E!<|R=if 2048<4+(P).length then([],901)else([aE n,aE l,aE ((4+(P).length:Nat)/256:Int),aE (4+(P).length:Nat)]++(P),0):=A? HM
 go_in
 go_wp2_with fail;let⟨W,hW⟩:=F?<|(w.alloc (.cells #[A! n,A! l,A! 0,J! k u.length j] 157)).alloc (.cells #[A! n,A! l,A! 0] 280);have hB:K! w W:=md3;have h0:aO W w.heap.size 157 #[A! n,A! l,A! 0,J! k u.length j]:=bay;have h1:aO W (w.heap.size+1) 280 #[A! n,A! l,A! 0]:=bbE;have L:=hv.below hB;rw[hW];refine M! (f _ L) λw1 hb=>?_;replace h0:=h0.below hb;replace h1:=h1.below hb;replace hB:=hB.trans<|hb.mono hB.size;have e0:=h1.k 0;have e1:=h1.k 1;go_wp2_with fail;refine M! (E _) λZ hb=>?_;replace h0:=h0.below hb;replace h1:=h1.below hb;replace hB:=hB.trans<|hb.mono hB.size;have e0:=h1.k 0;have e1:=h1.k 1;have e3:=h0.k 2;have e2:=h1.k 2;by_cases hn:2048<4+(P).length
 .have HM:=A? (z.trans<|G? hn);have H:2048<4+P.length:=md0;exact nb9
 .have HM:=A? (z.trans<|F! hn);have H:¬2048<4+P.length:=md0
  have O:E! (bytesOf ([aE n,aE l,aE ((4+(P).length:Nat)/256:Int),aE (4+(P).length:Nat)]++(P))=strOfNums [n,l,(4+(P.length:Int))/256,(4+(P.length:Int))%256]++(bytesOf P)):=A? (by
   have e2:((4+P.length:Nat):Int)=4+(P.length:Int):=B!;rw[m8,e2];simp only[i?,y!];rw[cZ n B! B!,cZ l B! B!,cZ ((4+(P.length:Int))/256) B! B!];rfl)
  go_wp2_with(go_at_call 201;refine M! (HR _) λw3 hb=>?_;replace h0:=h0.below hb;replace h1:=h1.below hb;replace hB:=hB.trans<|hb.mono hB.size;have e3:=h0.k 2;have e2:=h1.k 2;have e0:=h1.k 0;have e1:=h1.k 1;have hlt:w.heap.size+1<w3.heap.size:=h1.lt);go_ret2;refine⟨?_,meb⟩;rw[HM.out];show _=Ending.returned (.tuple #[D?<|bytesOf<|[aE n,aE l,aE ((4+(P).length:Nat)/256:Int),aE (4+(P).length:Nat)]++(P),A! 0]);rw[O.out];rfl
theorem SM(h:¬zq b)(y:fS b.code=C?):
 G! E? 218 #[.agg<|iC b v] w (S? w<|kz<|dJ b):=by
 have HM:=A?<|Ev h;rw[y]at HM;obtain⟨l,u,n,m⟩:=b;obtain⟨k,j,rfl,a1,a2⟩:=aD.form hv;generalize dJ ⟨l,u,n,m⟩=R at HM|-;have f:=A? λw h=>Co (J! k m.length j) m w h;have E:=A? λw=>sZ l u w;have HR:=A? λw=>qy l u w;let⟨Y,M⟩:=F?<|eV l u;let⟨P,I⟩:=F?<|cA m;simp only at y hv HM;rw[y]at HR;have A:=yO m
 have g:eV l u=true:=by
  cases e:eV l u
  .exact absurd (.inl e) h
  .rfl
 have F:0<=n:=by
  by_cases e:n<0
  .exact absurd (.inr (.inl e)) h
  .omega
 have G:n<=255:=by
  by_cases e:255<n
  .exact absurd (.inr (.inr (.inl e))) h
  .omega
 have N:(cA m).2=0:=by
  by_cases e:(cA m).2=0
  .exact e
  .exact absurd (.inr (.inr (.inr (.inr e)))) h
 rw[g]at E;rw[N]at f;obtain⟨B,V,K,X⟩:1<=l/\l<=8/\0<=u/\u<=255:=by unfold eV dw at g;simp at g;omega
 rw[I]at f HM A;obtain⟨P,C⟩:=P;simp only at f HM A;unfold iC;have J:=aA P;have L:=UF;have D:=Nr;have Q:∀a:Int,(strOfNums [a]).size=1:=λa=>ν _;have Z:∀a b c d:Int,(strOfNums [a,b,c,d]).size=4:=λa b c d=>ν _;have z:E!<|R=if 2048<4+(aE n::P).length then([],901)else([aE l,aE u,aE ((4+(aE n::P).length:Nat)/256:Int),aE (4+(aE n::P).length:Nat)]++(aE n::P),0):=A? HM
 go_in
 go_wp2_with fail;let⟨W,hW⟩:=F?<|(w.alloc (.cells #[A! l,A! u,A! n,J! k m.length j] 157)).alloc (.cells #[A! l,A! u,A! n] 280);have hB:K! w W:=md3;have h0:aO W w.heap.size 157 #[A! l,A! u,A! n,J! k m.length j]:=bay;have h1:aO W (w.heap.size+1) 280 #[A! l,A! u,A! n]:=bbE;have H:=hv.below hB;rw[hW];refine M! (f _ H) λw1 hb=>?_;replace h0:=h0.below hb;replace h1:=h1.below hb;replace hB:=hB.trans<|hb.mono hB.size;have e0:=h1.k 0;have e1:=h1.k 1;go_wp2_with fail;refine M! (E _) λa0 hb=>?_;replace h0:=h0.below hb;replace h1:=h1.below hb;replace hB:=hB.trans<|hb.mono hB.size;have e0:=h1.k 0;have e1:=h1.k 1;have e3:=h0.k 2;have e2:=h1.k 2;by_cases hn:2048<4+(aE n::P).length
 .have HM:=A? (z.trans<|G? hn);have S:2048<4+(1+P.length):=md0;exact nb9
 .have HM:=A? (z.trans<|F! hn);have S:¬2048<4+(1+P.length):=md0
  have O:E! (bytesOf ([aE l,aE u,aE ((4+(aE n::P).length:Nat)/256:Int),aE (4+(aE n::P).length:Nat)]++(aE n::P))=strOfNums [l,u,(4+(1+(P.length:Int)))/256,(4+(1+(P.length:Int)))%256]++(strOfNums [n]++bytesOf P)):=A? (by
   have e1:strOfNums [n]++bytesOf P=bytesOf (aE n::P):=by
    rw[m8];simp only[i?,y!];rw[cZ n B! B!];rfl
   have e2:((4+(aE n::P).length:Nat):Int)=4+(1+(P.length:Int)):=bab;rw[e1,m8,e2];simp only[i?,y!];rw[cZ l B! B!,cZ u B! B!,cZ ((4+(1+(P.length:Int)))/256) B! B!];rfl)
  go_wp2_with(go_at_call 201;refine M! (HR _) λw3 hb=>?_;replace h0:=h0.below hb;replace h1:=h1.below hb;replace hB:=hB.trans<|hb.mono hB.size;have e3:=h0.k 2;have e2:=h1.k 2;have e0:=h1.k 0;have e1:=h1.k 1;have hlt:w.heap.size+1<w3.heap.size:=h1.lt);go_ret2;refine⟨?_,meb⟩;rw[HM.out];show _=Ending.returned (.tuple #[D?<|bytesOf<|[aE l,aE u,aE ((4+(aE n::P).length:Nat)/256:Int),aE (4+(aE n::P).length:Nat)]++(aE n::P),A! 0]);rw[O.out];rfl
theorem tC:
 G! E? 218 #[.agg<|iC b v] w (S? w<|kz<|dJ b):=by
 by_cases h:zq b
 .exact aaR b v w hv h
 cases e:fS b.code
 .exact SL b v w hv h e
 .exact SM b v w hv h e
end
section
variable{w w1:D!}{b lb hb:Nat}{m m':aT}
def Bu(r:aT×Option (List UInt8)×Bool):Value:=.tuple #[D?<|bytesOf<|r.2.1.getD [],H? r.2.1.isSome,H? r.2.2]
def uo(f:bF):Value:=.agg #[H? f.b,H? f.e,A! f.seq,D? f.d]
theorem S4(f:bF)(t:Int)(h:cE w b lb hb m)(r:gH m)(d:0<=m.lost/\m.lost+m.held.length<=1152921504606846976)(o:f.b=H!):
 G! E? 237 #[ptr b,uo f,A! t] w (GH b lb hb (fU m f t).1 w<|Bu<|fU m f t):=by
 have n:fU m f t=(Af m 1,L?,C?):=by unfold fU;rw[G? o]
 rw[n];have s:=A? λw h=>Ht (w:=w) (b:=b) (lb:=lb) (hb:=hb) 1 h r B! d;unfold ptr uo Bu at*
 rw[o];go_in;go_wp2_with fail;have i:K! w<|w.alloc (.cells #[H? H!,H? f.e,A! f.seq,D? f.d] 228):=R!;refine(s _<|h.below i).mono ?_;rintro e u ⟨rfl,l,c⟩;go_wp2;exact V? (v:=.tuple xaw) bcq rfl ⟨rfl,l,(Only.aP i).trans c⟩
theorem aa8{k:Nat}(h:cE w b lb hb {m with held:=nB m k})(e:bp w1 hb<|dB (dY (λ_ f=>yI f)<|nB m k)<|qM m k)(t:Only (λi=>i=hb) w w1):cE w1 b lb hb {m with held:=nB m (k+1)}:=by
 rw[fZ]at e;exact h.held e t
theorem gH.del(h:gH m)(k:Nat):gH {m with held:=nB m k}:=
 ⟨h.n0,h.n1,h.nd.sublist<|(oG m k).map _,λx e=>h.ks x<|(oG m k).subset e,h.ln,h.ls,h.m0⟩
section
variable(f:bF)(mm:Int)(h:cE w b lb hb m)(hg:gH m)(hd:Pq m)
include f mm h hg hd
theorem Mg(Yo:f.b=C?)(T:List UInt8)(N:Nat)(hP:gK m (m.held.length+1) 0 []=(T,(N:Int),C?)):
 G! E? 237 #[ptr b,uo f,A! mm] w (GH b lb hb (fU m f mm).1 w<|Bu<|fU m f mm):=by
 have H:fU m f mm=({m with held:=nB m N,next:=qM m N},C! T,C?):=nba;rw[H];have y:=rz m (m.held.length+1) 0 [];have hn:=hd.n;rw[hP]at y;have M:N<=4096:=by have:=y.2;simp only at this;omega
 have z:=A? λw h=>Ex (w:=w) (b:=b) (lb:=lb) (hb:=hb) h hg hd;rw[hP]at z;have j:=A?<|λ(k:Nat) (i:Int) w (h:cE w b lb hb {m with held:=nB m k}) hi=>CF i h (hg.del k) hi;unfold ptr uo Bu UR at*
 rw[Yo];go_in;go_wp2_with fail;have u:K! w<|w.alloc (.cells #[H? C?,H? f.e,A! f.seq,D? f.d] 228):=R!;refine M! (z _<|h.below u) λY s=>?_;have s:=u.trans<|s.mono u.size;go_wp2;go_loopw[12,28] (λv i wr=>∃k:Nat,k<=N/\i=A! k/\cE wr b lb hb {m with held:=nB m k}/\Only (xM b lb hb) w wr) (λ_ i _=>N-(intOf i).toNat)
 case atStart=>exact⟨0,S! _,rfl,h.below s,Only.aP s⟩
 case round=>
  obtain⟨k,F,rfl,t,A⟩:=hrel;by_cases G:k<N
  .have D:=t.c5;have q:E!<|∀n,cE n b lb hb {m with held:=nB m k}->L! n b 5 (.map<|C! hb):=A? λn h=>h.c5;go_wp2;refine dW (λn=>L! n b 5 (.map<|C! hb)) (zcb [8,2]) (q _<|t.below<|aQ U?) ?_;refine R? ?_;intro K r;go_wp2_with(go_at_call 238;refine M! (j k k _ (t.below<|aQ U?) B!) λI o=>?_);have e:=(t.below<|aQ U?).below o;have g:=(A.then<|aQ U?).then o;apply O! r (q _ e);refine R? ?_;intro K r;go_wp2_with(refine fW rfl _ _ rfl underlying152 underlying3 (qM m k) e.mh rfl rfl λB R O W=>?_);have E:=aa8 e R O;apply O! r E.c5;refine T? ?_;go_wp2;go_roundw
   case rel=>exact⟨k+1,B!,W!,E,g.trans O.j3⟩
   case measure=>simp[intOf];omega
  .obtain rfl:k=N:=B!;go_wp2_with(go_at_call 238;refine M! (j k k _ t B!) λI o=>?_;have e:=t.below o;have L:=e.c1;have C:=e.blk.frozen 1);have g:=A.then o;exact V? (v:=.tuple #[D?<|bytesOf T,H? C?,H? C?]) bcq rfl ⟨rfl,e.cells (e.blk.set 1 _ rfl) (ay _ _ _ _) rfl rfl,g.trans (ay I b 1 _).j1⟩
theorem Ps(a8:0<=m.lost/\m.lost+m.held.length<=1152921504606846976)(Yo:f.b=C?)(T:List UInt8)(k:Nat)(hP:gK m (m.held.length+1) 0 []=(T,(k:Int),H!)):
 G! E? 237 #[ptr b,uo f,A! mm] w (GH b lb hb (fU m f mm).1 w<|Bu<|fU m f mm):=by
 have z:fU m f mm=if au m.held (qM m k)then(Af m k,L?,C?)else if(k:Int)<=mm then(Af m<|k+1,L?,C?)else(m,L?,H!):=nba
 have C:=rz m (m.held.length+1) 0 [];have al:=hd.n;rw[hP]at C;have ax:k<=4096:=by have:=C.2;simp only at this;omega
 have W:=A? λw h=>Ex (w:=w) (b:=b) (lb:=lb) (hb:=hb) h hg hd;rw[hP]at W;have a5:=A?<|λ(o:Int) w h J=>Ht (w:=w) (b:=b) (lb:=lb) (hb:=hb) (m:=m) o h hg J a8;have a1:=A? h;have hS:E!<|∀e,cE e b lb hb m->L! e b 5 (.map<|C! hb)/\(Instr.lookup 152 (.map<|C! hb) (A!<|qM m k) C?).run E? e=.ok (um m<|qM m k) e:=A? λe h=>⟨h.c5,h.um _⟩;have a3:=λo w (h:cE w b lb hb m) J=>CF o h hg J;let⟨K,G⟩:=F?<|qM m k;have F:E!<|∀e,cE e b lb hb m->G! E? 238 #[P? b,A! k] e (S? e<|A! K):=A? λe h=>by rw[<-G];exact a3 k e h B!
 rw[G]at hS z;clear G a3;let⟨g,a6⟩:=F?<|(bt m.held K).getD eZ;let⟨a9,V⟩:=F?<|au m.held K;unfold um at hS;rw[a6,V]at hS;rw[V]at z;clear a6 V;generalize fU m f mm=Y at z|-;have j:=A? z;clear h hg z C hP hd al a8;unfold ptr uo UR at*
 rw[Yo];go_in;go_wp2_with fail;have N:K! w<|w.alloc (.cells #[H? C?,H? f.e,A! f.seq,D? f.d] 228):=R!;refine M! (W _<|a1.below N) λwr n=>?_;have I:=N.trans<|n.mono N.size;have R:=a1.below I;clear W N n;go_wp2;refine wO (λe=>L! e b 5 (.map<|C! hb)/\(Instr.lookup 152 (.map<|C! hb) (A! K) C?).run E? e=.ok (.tuple #[.agg #[H? g.b,H? g.e,A! g.seq,D? g.d],H? a9]) e) (.two [(0,C?),(1,C?),(2,C?),(3,C?),(4,C?),(5,C?),(6,C?),(7,C?)] 8 13 (.fin [(9,C?),(10,C?),(11,C?),(12,C?),(13,H!),(14,H!),(15,C?)]) (.fin [(8,H!),(9,C?),(10,C?),(11,C?),(12,C?),(14,H!),(15,C?)])) M? M? rfl M? M? M? (hS _<|R.below<|aQ U?) (λ_ d _ _ _ h=>bav) ?_;let⟨A,hwd⟩:=F? wr.drew;have u:K! wr A:=bbw;rw[hwd];clear hwd;have L:=R.below u;have az:=u.size;simp only[tB,fQ,ύ,ϟ,baM,baO,baA,p?];refine T? ?_;refine jf ?_ ?_
 focus
  refine dg λaa s t=>?_;go_wp2_with(go_at_call 238;refine M! (F _ L) λy n=>?_);have c:=L.below n;apply O! t (hS _ c);clear t s;show bO _ _ _ _ _ _ _;refine R? ?_;intro s t;go_wp2_with fail;let⟨E,hw3⟩:=F?<|y.alloc (.cells xaa 228);have i:aO E y.heap.size 228 xaa:=bcl;have l:K! y E:=mb2;rw[hw3];clear hw3;have H:=c.below l;have r:=u.trans<|n.mono u.size;have S:=r.trans<|l.mono r.size;have hsz:=r.size;apply O! t (hS _ H);clear t s n;refine tK ?_;generalize y.heap.size=B at i hsz|-;clear l c r
 rotate_left
 focus
  refine dg λaa s t=>?_;go_wp2_with fail;let⟨y,hw2⟩:=F?<|A.alloc (.cells xaa 228);have a4:aO y A.heap.size 228 xaa:=mbc;have n:K! A y:=mb8;rw[hw2];clear hw2;have c:=L.below n;have r:=u.trans<|n.mono u.size;apply O! t (hS _ c);clear t s;show bO _ _ _ _ _ _ _;refine R? ?_;intro s t;go_wp2_with(go_at_call 238;refine M! (F _ c) λE l=>?_);have H:=c.below l;have i:=a4.below l;have S:=r.trans<|l.mono r.size;apply O! t (hS _ H);clear t s n;refine tK ?_;let⟨B,a0⟩:=F? A.heap.size;have hsz:wr.heap.size<=B:=B!;rw[a0]at i|-;clear a0 l c a4 r
 all_goals
  have ab:=i.cell 0;have ac:=i.cell 1;have ad:=i.cell 2;have ae:=i.cell 3;have an:=i.frozen 0;have ao:=i.frozen 1;have ap:=i.frozen 2;have ar:=i.frozen 3;refine ai λs t=>?_;go_wp2_with fail;have a2:=(((i.set 0 (H? g.b) rfl).set 1 (H? g.e) rfl).set 2 (A! g.seq) rfl).set 3 (D? g.d) rfl;have D:=S.trans<|(zY E B (H? g.b) (H? g.e) (A! g.seq)<|D? g.d).below S.size λk hk=>mbk;generalize (((E.setCell (B? B 0)<|H? g.b).setCell (B? B 1)<|H? g.e).setCell (B? B 2)<|A! g.seq).setCell (B? B 3) (D? g.d)=av at a2 D|-;have O:=R.below D;apply O! t (hS _ O);clear t s;refine T? ?_;clear ab ac ad ae an ao ap ar i H S L u R hS F;have M:=I.trans<|D.mono I.size;clear D I a2;cases a9 with
  |true=>
   have q:E!<|Y=(Af m k,L?,C?):=A? (by rw[j.out,G? rfl]);clear j;go_wp2_with(apply(a5 k _ O B!).mono;rintro ag am ⟨rfl,X,Z⟩);rw[q.out];exact V? (v:=.tuple xaw) bcq rfl ⟨rfl,X,(Only.aP M).trans Z⟩
  |false=>
   by_cases a7:(k:Int)<=mm
   .have q:E!<|Y=(Af m<|k+1,L?,C?):=A? (by rw[j.out,F! I!,G? a7]);clear j;go_wp2_with(apply(a5 ((k:Int)+1) _ O B!).mono;rintro ag am ⟨rfl,X,Z⟩);rw[q.out];exact V? (v:=.tuple xaw) bcq rfl ⟨rfl,X,(Only.aP M).trans Z⟩
   .have q:E!<|Y=(m,L?,H!):=A? (by rw[j.out,F! I!,F! a7]);clear j;go_wp2_with fail;rw[q.out];exact V? (v:=.tuple #[D? ⟨#[]⟩,H? H!,H? H!]) bcq rfl ⟨rfl,O,Only.aP M⟩
theorem S6(i:0<=m.lost/\m.lost+m.held.length<=1152921504606846976):
 G! E? 237 #[ptr b,uo f,A! mm] w (GH b lb hb (fU m f mm).1 w<|Bu<|fU m f mm):=by
 cases e:f.b with
 |false=>exact S4 f mm h hg i e
 |true=>
  let⟨P,t⟩:=F?<|gK m (m.held.length+1) 0 [];have o:=(rz m (m.held.length+1) 0 []).1;rw[t]at o;obtain⟨T,N,s⟩:=P;simp only at o;obtain⟨n,rfl⟩:∃n:Nat,N=n:=⟨N.toNat,B!⟩;cases s with
  |true=>exact Mg f mm h hg hd e T n t
  |false=>exact Ps f mm h hg hd i e T n t
end
end
