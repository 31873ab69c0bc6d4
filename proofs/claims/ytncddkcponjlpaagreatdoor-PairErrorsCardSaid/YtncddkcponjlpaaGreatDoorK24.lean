/- Walks and plain laws. -/
import Derived.Test.YtncddkcponjlpaaGreatDoorK18
import Derived.Test.YtncddkcponjlpaaGreatDoorK22
set_option linter.unusedVariables false
set_option linter.unusedSimpArgs false
set_option maxHeartbeats 0
set_option maxRecDepth 99999
namespace Go.Proofs.YtncddkcponjlpaaGreatDoor
open Go.RowKit Go.Proofs.Tryz
open Go renaming World→D!,Value→I?,Calls→G!,IntKind→ncy
open Go.RowKit renaming Hid→E!
open Decidable renaming decide→K?
open Option renaming some→C!,none→L?
open Bool renaming true→C?,false→H!
open Go.Proofs.Tryz renaming prog→E?
variable{P:Prop}
variable{w w1:D!}{G G1:Nat->Tag}{b:Nat}{x x':pV}{t:Tag}{l l':aM}
theorem Ls{D:Array Oper}{C:List Oper}{o:Oper}{a:Act}{w:D!}{Q:Exit->Act->D!->Prop}(V:o.guard=L?)(s x:Operand)
 (X:o.op=.call {callee:=.builtin .append,args:= #[s,x],argTypes:= #[64,9]})
 (v:I?)(l:List UInt8)(news:ByteArray)(j:Own w 0 v l)(a1:a.eval s=v)(a2:a.eval x=D? news)
 (ac:l.length+news.size<=140737488355328)
 (h:∀c r,Own r 0 c (l++news.data.toList)->Only (λk=>v.ownBlock=C! k) w r->(∀k,c.ownBlock=C! k->v.ownBlock=C! k\/(w.heap.size<=k/\k<r.heap.size))->wpList E? D Q C (a.put o.dst c) r):
 wpList E? D Q (o::C) a w:=by
 let⟨E,y,N,z,S⟩:=bb5 Dk;refine baH V λa4 F=>?_;let⟨c,r,q,H,f,a8⟩:=Lib.run_append_own_string (P:=E?) w 0 64 9 o.type 5 E underlying64 underlying9 y N z S v l.length (Lib.byteCells l) j news bao B!<|S! _
 have W:∀k,c.ownBlock=C! k->v.ownBlock=C! k\/(w.heap.size<=k/\k<r.heap.size):=by
  intro k i
  have L:k<r.heap.size:=by
   rcases H.2 with⟨d,_⟩|⟨g,u,A,d,_,O,_⟩
   .rw[d]at i;cases i
   .rw[d]at i;cases i
    exact(i!.1 O).1
  rcases j.2 with⟨d,M⟩|⟨g,u,A,d,a9,O,ad,aa,Y,ae⟩
  .have Z:w.ownsRow w.heap.size 5 1 v l.length<|Lib.byteCells l:=⟨j.1,.inl ⟨d,M⟩⟩;let⟨al,am,n,a3,ag,_⟩:=Lib.run_append_own_string (P:=E?) w w.heap.size 64 9 o.type 5 E underlying64 underlying9 y N z S v l.length (Lib.byteCells l) Z news bao B! O?;rw[q]at n;injection n with m R
   subst m;rcases a3.2 with⟨I,_⟩|⟨a7,a5,a6,I,B,_⟩
   .rw[I]at i;cases i
   .rw[I]at i;cases i
    exact .inr ⟨B,L⟩
  .subst d;by_cases a0:l.length+news.size<=u
   .have ab:A.size=u:=by simpa using Y
    have n:=Lib.run_append_room_string (P:=E?) w 64 9 o.type 5 E underlying64 underlying9 y z g l.length u A O news a0 B!;rw[q]at n;injection n with m R
    subst m;cases i
    exact .inl rfl
   .have J:=World.ownsRow.cells j (g:=g) rfl;have n:=Lib.run_append_grow_string (P:=E?) w 64 9 o.type 5 E (.int .u8 0) underlying64 underlying9 y N (B? g 0) l.length u (Lib.byteCells l) (by rw[z,bax,bbb]) J news B! B! (by rw[S];exact growslice_fits B! B!);rw[q]at n;injection n with m R
    subst m;cases i
    exact .inr ⟨Y? _,L⟩
 unfold Oper.wp execOp;simp only[X,resolve,invoke,builtin,maQ,bcB,mcm,List.map_toArray,i?,y!,a1,a2,q];refine F _ _<|h c r ?_ ⟨f.os,f.tape,f.output,f.size,λk i K=>f.block k i<|λe=>K e.symm⟩ W;have e:Lib.byteCells (l++news.data.toList)=Lib.byteCells l++Lib.strCells news:=nb2;unfold Own;rw[e,X!,show news.data.toList.length=news.size from rfl];exact H
theorem Ea:∃j,prog.info? 102=C! j/\j.size=2:=by
 have h:(prog.info? 102).map (λi=>i.size)=C! 2:=M?;let⟨j,e,o⟩:=Option.map_eq_some_iff.1 h;exact⟨j,e,o⟩
theorem Oe:liesAt E? prog.depth 107 (19/prog.cellsOf 107) 8 102 1=true:=M?
def xk(b:Nat):Value:=.pointer<|C!<|B? b 8
section
variable{b:Nat}{cs:Array I?}
theorem Rz(h:aO w b 107 cs)(e:cs[8]? =C! (xk b)):
 G! E? 252 #[.pointer<|C!<|B? b 8] w (T! w (.tuple #[])):=by
 have i:L! w b 8 (.pointer<|C!<|B? b 8):=(h.cell 8).trans e;obtain⟨j,o,n⟩:=Ea;go_wp2;rw[Lib.run_neq_ptr_same w _ underlying100 o];go_wp2;go_end0;exact⟨rfl,rfl⟩
theorem Og(h:aO w b 107 cs)(n:cs[8]? =C! (.pointer L?))(r:cs.size=19):
 G! E? 252 #[.pointer<|C!<|B? b 8] w λe d=>e=.returned (.tuple #[])/\d=w.setCell (B? b 8) (xk b):=by
 have c:=(h.cell 8).trans n;have f8:=h.frozen 8;obtain⟨j,o,s⟩:=Ea
 have i:w.shape? b=C! (107,19):=by
  unfold aO at h;simp[World.shape?,h,r]
 unfold xk;go_wp2;rw[Lib.run_to_unsafe w (B? b 8) underlying100 underlying369 o (by rw[s];decide) i<|show(8:Nat)<19 from I!];simp only[Result.andThen];rw[mdP];go_wp2;rw[run_callFunc_extern func285 M? M? M? (e:=Extern.AbiNoEscape.same) M?];rw[Lib.run_noEscape];simp only[Result.andThen];rw[mdP];go_wp2;rw[Lib.run_from_unsafe w (B? b 8) underlying369 underlying100 o i Oe];simp only[Result.andThen];rw[mdP];go_wp2;go_end0;exact⟨rfl,rfl⟩
theorem V9{n:I?}(h:aO w b 107 cs)(o:cs[8]? =C! n)(r:n=.pointer L?\/n=xk b)(d:cs.size=19):
 G! E? 252 #[.pointer<|C!<|B? b 8] w λe s=>e=.returned (.tuple #[])/\aO s b 107 (cs.setIfInBounds 8<|xk b)/\Only (λk=>k=b) w s:=by
 rcases r with rfl|rfl
 .apply(Og h o d).mono;rintro e s ⟨rfl,rfl⟩;exact⟨rfl,h.set 8 _ rfl,ay _ _ _ _⟩
 .refine d! (Rz h o) ?_;refine⟨rfl,?_,Only.refl _ _⟩
  rw[show cs.setIfInBounds 8 (xk b)=cs from by
   apply mdn;intro i;rw[mba];by_cases e:8=i
   .subst e;rw[G? rfl,G? B!];exact o.symm
   .rw[F! e]]
  exact h
theorem RC{O o:I?}{l:List UInt8}(s:ByteArray)(h:aO w b 107 cs)(M:cs[8]? =C! O)(F:cs[9]? =C! o)(B:O=.pointer L?\/O=xk b)(K:cs.size=19)
 (V:Own w 0 o l)(J:∀k,o.ownBlock=C! k->k≠b)(W:l.length+s.size<=140737488355328):
 G! E? 214 #[.pointer<|C!<|B? b 8,D? s] w λe c=>e=.returned (.tuple #[A! s.size,.nilIface])/\
  ∃d,aO c b 107 ((cs.setIfInBounds 8<|xk b).setIfInBounds 9 d)/\Own c 0 d (l++s.data.toList)/\Only (λk=>k=b\/o.ownBlock=C! k) w c/\(∀k,d.ownBlock=C! k->o.ownBlock=C! k\/(w.heap.size<=k/\k<c.heap.size)):=by
 have D:=A?<|V9 h M B K;have u:=A? J;have N:=A? F;have a0:=h.lt;go_in;go_wp2_with fail;apply D.mono;rintro e w1 ⟨rfl,y,E⟩
 have X:Own w1 0 o l:=by
  obtain⟨A,i⟩:=V;refine⟨A,?_⟩;rcases i with i|⟨g,m,f,n,j,q,r⟩
  .exact .inl i
  .exact .inr ⟨g,m,f,n,j,E.heap q<|u g<|by rw[n];rfl,r⟩
 have Z:w1.cell? (B? b 9)=C! o:=by
  rw[y.cell 9,bb3 I!];exact N
 have a4:=y.lt;go_wp2_with(at_builtin;apply Ls rfl _ _ rfl _ _ _ X rfl rfl W);intro d I L S H;have v:=y.only S λe=>u b e rfl;have a3:=v.frozen 9
 have a2:I.cell? (B? b 9)=C! o:=by
  rw[v.cell 9,bb3 I!];exact N
 have C:=A? H
 have Y:E!<|∀k,d.ownBlock=C! k->k≠b:=A? λk z e=>by
  rcases H k z with h|h
  .exact u k h e
  .subst e;omega
 let⟨Q,a1,R⟩:=L.form;rw[X!,show s.data.toList.length=s.size from rfl]at R;subst R;go_wp2;go_ret2;refine⟨rfl,_,v.set 9 _ rfl,?_,?_,?_⟩
 .obtain⟨A,i⟩:=L;refine⟨A,?_⟩;rcases i with i|⟨g,m,f,n,j,q,r⟩
  .exact .inl i
  .exact .inr ⟨g,m,f,n,j,(ay I b 9 _).heap q<|Y g<|by rw[n];rfl,r⟩
 .exact((E.mono λk _ e=>.inl e).trans<|S.mono λk _ e=>.inr e).trans<|(ay I b 9 _).mono λk _ e=>.inl e
 .intro k z;rcases C k z with h|h
  .exact .inl h
  .exact .inr ⟨Z? E.size h.1,by simpa using h.2⟩
end
section
theorem gX{n a b:Int}{s t u:Tag}(i:a≠b)(e:aq (n::a::s) u)(o:aq (n::b::t) u):False:=by
 rcases baX e o with h|h<;>simp at h<;>omega
theorem Lv{n a k i:Int}{s t u:Tag}(r:k≠i)(e:aq (n::a::k::s) u)(o:aq (n::a::i::t) u):False:=by
 rcases baX e o with h|h<;>simp at h<;>omega
theorem mX{n a:Int}{s:Tag}(h:aq (n::a::s) [n]):False:=by
 have:=List.IsPrefix.length_le h;simp at this
theorem cQ{n a b:Int}{s t:Tag}(e:a≠b):¬aq (n::a::s) (n::b::t):=λh=>gX e h<|aq.self _
variable{n:Int}{x:eY}{m:aF}
section
variable(h:cg w G n b x m)
include h
theorem cg.queue{Q:bh}(d:Step (aq [n,1]) G w G1 w1)(y:eC w1 G1 [n,1] x.q Q):cg w1 G1 n b x {m with queue:=Q}:=
 ⟨h.blk.step d bb6,(d.old _ h.blk.lt).trans h.tag,y,h.j.step d λu f=>gX I! f,h.k.step d λu f=>gX I! f,(d.old _ h.lm.lt).trans h.tl,(d.old _ h.pm.lt).trans h.tp,(d.old _ h.vm.lt).trans h.tv,
   h.lm.step d bbm,h.pm.step d bbR,h.vm.step d bba,h.xU.step d (cQ I!),h.got.step d (cQ I!),λk l g=>(h.link k l g).step d λu f=>gX I! f⟩
theorem cg.join{J:aT}(d:Step (aq [n,2]) G w G1 w1)(g:yJ w1 G1 [n,2] x.j J):cg w1 G1 n b x {m with join:=J}:=
 ⟨h.blk.step d bb6,(d.old _ h.blk.lt).trans h.tag,h.q.step d λu f=>gX I! f,g,h.k.step d λu f=>gX I! f,(d.old _ h.lm.lt).trans h.tl,(d.old _ h.pm.lt).trans h.tp,(d.old _ h.vm.lt).trans h.tv,
   h.lm.step d bbm,h.pm.step d bbR,h.vm.step d bba,h.xU.step d (cQ I!),h.got.step d (cQ I!),λk l y=>(h.link k l y).step d λu f=>gX I! f⟩
theorem cg.cC{K:dD}(d:Step (aq [n,3]) G w G1 w1)(g:F2 w1 G1 [n,3] x.k K):cg w1 G1 n b x {m with cC:=K}:=
 ⟨h.blk.step d bb6,(d.old _ h.blk.lt).trans h.tag,h.q.step d λu f=>gX I! f,h.j.step d λu f=>gX I! f,g,(d.old _ h.lm.lt).trans h.tl,(d.old _ h.pm.lt).trans h.tp,(d.old _ h.vm.lt).trans h.tv,
   h.lm.step d bbm,h.pm.step d bbR,h.vm.step d bba,h.xU.step d (cQ I!),h.got.step d (cQ I!),λk l g=>(h.link k l g).step d λu f=>gX I! f⟩
theorem cg.own{m':aF}{s:Option Nat}(H:Only (λk=>k=b) w w1)(R:aO w1 b 94<|gE {x with s:=s} m')
 (z:m'.queue=m.queue)(E:m'.join=m.join)(A:m'.cC=m.cC)(y:m'.links=m.links)(O:m'.phases=m.phases)(I:m'.proved=m.proved)(N:m'.changes=m.changes)(S:m'.got=m.got):
 cg w1 (grow G w.heap.size free) n b {x with s:=s} m'/\Step (aq [n]) G w (grow G w.heap.size free) w1:=by
 have d:Step (λu=>u=[n]) G w (grow G w.heap.size free) w1:=Step.of H (λk _ e=>Ψ) free;have f:∀a t,¬(λu=>u=[n]) (n::a::t):=λa t e=>ba7;have g:∀a t u,aq (n::a::t) u->¬(λu=>u=[n]) u:=λa t u hu e=>by rw[show u=[n]from e]at hu;exact mX hu
 refine⟨⟨R,(d.old _ h.blk.lt).trans h.tag,?_,?_,?_,(d.old _ h.lm.lt).trans h.tl,(d.old _ h.pm.lt).trans h.tp,(d.old _ h.vm.lt).trans h.tv,?_,?_,?_,?_,?_,λk l j=>?_⟩,d.mono λu hu=>baQ⟩
 .rw[z];exact h.q.step d<|g _ _
 .rw[E];exact h.j.step d<|g _ _
 .rw[A];exact h.k.step d<|g _ _
 .rw[y];exact h.lm.step d (by rw[h.tl];exact f _ _)
 .rw[O];exact h.pm.step d (by rw[h.tp];exact f _ _)
 .rw[I];exact h.vm.step d (by rw[h.tv];exact f _ _)
 .rw[N];exact h.xU.step d<|f _ _
 .rw[S];exact h.got.step d<|f _ _
 .rw[y]at j;exact(h.link k l j).step d<|g _ _
theorem cg.phase{p:KV Int}(j:Only (λk=>k=x.pm) w w1)(y:bp w1 x.pm<|dY (λ_ v=>A! v) p):
 cg w1 (grow G w.heap.size free) n b x {m with phases:=p}/\Step (aq [n]) G w (grow G w.heap.size free) w1:=by
 have d:Step (aq [n,5]) G w (grow G w.heap.size free) w1:=Step.of j (λk _ e=>by rw[e,h.tp];exact aq.self _) free
 exact⟨⟨h.blk.step d bb6,(d.old _ h.blk.lt).trans h.tag,h.q.step d λu f=>gX I! f,h.j.step d λu f=>gX I! f,h.k.step d λu f=>gX I! f,(d.old _ h.lm.lt).trans h.tl,(d.old _ h.pm.lt).trans h.tp,(d.old _ h.vm.lt).trans h.tv,
  h.lm.step d bbm,y,h.vm.step d bba,h.xU.step d (cQ I!),h.got.step d (cQ I!),λk l g=>(h.link k l g).step d λu f=>gX I! f⟩,d.mono λu f=>(aq.app [n] [5]).trans f⟩
theorem cg.prove{p:KV Bool}(j:Only (λk=>k=x.vm) w w1)(y:bp w1 x.vm<|dY (λ_ v=>H? v) p):
 cg w1 (grow G w.heap.size free) n b x {m with proved:=p}/\Step (aq [n]) G w (grow G w.heap.size free) w1:=by
 have d:Step (aq [n,6]) G w (grow G w.heap.size free) w1:=Step.of j (λk _ e=>by rw[e,h.tv];exact aq.self _) free
 exact⟨⟨h.blk.step d bb6,(d.old _ h.blk.lt).trans h.tag,h.q.step d λu f=>gX I! f,h.j.step d λu f=>gX I! f,h.k.step d λu f=>gX I! f,(d.old _ h.lm.lt).trans h.tl,(d.old _ h.pm.lt).trans h.tp,(d.old _ h.vm.lt).trans h.tv,
  h.lm.step d bbm,h.pm.step d bbR,y,h.xU.step d (cQ I!),h.got.step d (cQ I!),λk l g=>(h.link k l g).step d λu f=>gX I! f⟩,d.mono λu f=>(aq.app [n] [6]).trans f⟩
theorem cg.ain{v:I?}{cs:List Ch}(ho:Only (λk=>k=b\/x.xU.ownBlock=C! k) w w1)(E:aO w1 b 94<|gE {x with xU:=v} {m with changes:=cs})(A:jd Ci w1 v cs)
 (O:∀k,v.ownBlock=C! k->x.xU.ownBlock=C! k\/(w.heap.size<=k/\k<w1.heap.size)):
 ∃z,cg w1 z n b {x with xU:=v} {m with changes:=cs}/\Step (aq [n]) G w z w1:=by
 have hs:Step (λu=>u=[n]\/u=[n,7]) G w (λk=>if k<w.heap.size then G k else[n,7]) w1:=Step.rule ho (λk _ e=>e.imp (λe=>Ψ)<|λe=>(h.xU.2 k e).2) _;have d:∀a t,a≠7->¬(n::a::t=[n]\/n::a::t=[n,7]):=λa t y e=>by rcases e with e|e<;>simp at e;exact y e.1
 have g:∀a t u,a≠7->aq (n::a::t) u->¬(u=[n]\/u=[n,7]):=λa t u y f e=>by
  rcases e with rfl|rfl
  .exact mX f
  .exact cQ y f
 refine⟨_,⟨E,(hs.old _ h.blk.lt).trans h.tag,h.q.step hs λu=>g _ _ u I!,h.j.step hs λu=>g _ _ u I!,h.k.step hs λu=>g _ _ u I!,(hs.old _ h.lm.lt).trans h.tl,(hs.old _ h.pm.lt).trans h.tp,(hs.old _ h.vm.lt).trans h.tv,h.lm.step hs<|by rw[h.tl];exact d _ _ I!,h.pm.step hs<|by rw[h.tp];exact d _ _ I!,h.vm.step hs<|by rw[h.tv];exact d _ _ I!,⟨A,λk j=>?_⟩,h.got.step hs<|d _ _ I!,λk l j=>(h.link k l j).step hs λu=>g _ _ u I!⟩,hs.mono λu f=>?_⟩
 .rcases O k j with e|e
  .have:=h.xU.2 k e;exact bbn
  .exact⟨e.2,F! B!⟩
 .rcases f with rfl|rfl
  .exact aq.self _
  .exact aq.app [n] [7]
theorem cg.aio{v:I?}{cs:List ByteArray}(ho:Only (λk=>k=b\/x.got.ownBlock=C! k) w w1)(E:aO w1 b 94<|gE {x with got:=v} {m with got:=cs})(A:jd fB w1 v cs)
 (O:∀k,v.ownBlock=C! k->x.got.ownBlock=C! k\/(w.heap.size<=k/\k<w1.heap.size)):
 ∃z,cg w1 z n b {x with got:=v} {m with got:=cs}/\Step (aq [n]) G w z w1:=by
 have hs:Step (λu=>u=[n]\/u=[n,8]) G w (λk=>if k<w.heap.size then G k else[n,8]) w1:=Step.rule ho (λk _ e=>e.imp (λe=>Ψ)<|λe=>(h.got.2 k e).2) _;have d:∀a t,a≠8->¬(n::a::t=[n]\/n::a::t=[n,8]):=λa t y e=>by rcases e with e|e<;>simp at e;exact y e.1
 have g:∀a t u,a≠8->aq (n::a::t) u->¬(u=[n]\/u=[n,8]):=λa t u y f e=>by
  rcases e with rfl|rfl
  .exact mX f
  .exact cQ y f
 refine⟨_,⟨E,(hs.old _ h.blk.lt).trans h.tag,h.q.step hs λu=>g _ _ u I!,h.j.step hs λu=>g _ _ u I!,h.k.step hs λu=>g _ _ u I!,(hs.old _ h.lm.lt).trans h.tl,(hs.old _ h.pm.lt).trans h.tp,(hs.old _ h.vm.lt).trans h.tv,h.lm.step hs<|by rw[h.tl];exact d _ _ I!,h.pm.step hs<|by rw[h.tp];exact d _ _ I!,h.vm.step hs<|by rw[h.tv];exact d _ _ I!,h.xU.step hs<|d _ _ I!,⟨A,λk j=>?_⟩,λk l j=>(h.link k l j).step hs λu=>g _ _ u I!⟩,hs.mono λu f=>?_⟩
 .rcases O k j with e|e
  .have:=h.got.2 k e;exact bbn
  .exact⟨e.2,F! B!⟩
 .rcases f with rfl|rfl
  .exact aq.self _
  .exact aq.app [n] [8]
theorem cg.nodup:(m.links.map (·.1)).Nodup:=by have:=h.lm.nodup;rw[i9]at this;exact this
theorem cg.gY{k:Int}{l':aM}(y:au m.links k=C?)(d:Step (aq [n,9,k]) G w G1 w1)(j:cI w1 G1 [n,9,k] (x.f k) l'):cg w1 G1 n b x<|bH m k l':=by
 refine⟨h.blk.step d bb6,(d.old _ h.blk.lt).trans h.tag,h.q.step d λu f=>gX I! f,h.j.step d λu f=>gX I! f,h.k.step d λu f=>gX I! f,(d.old _ h.lm.lt).trans h.tl,(d.old _ h.pm.lt).trans h.tp,(d.old _ h.vm.lt).trans h.tv,?_,
  h.pm.step d bbR,h.vm.step d bba,h.xU.step d (cQ I!),h.got.step d (cQ I!),λi l g=>?_⟩
 .show bp w1 x.lm (dY _<|bI m.links k l');rw[Cw (λk=>ptr<|x.f k) y];exact h.lm.step d bbm
 .rcases Cx h.nodup y g with⟨rfl,rfl⟩|⟨e,g⟩
  .exact j
  .exact(h.link i l g).step d λu f z=>Lv e f z
theorem cg.mG{k:Int}(e:au m.links k=C?):cI w G [n,9,k] (x.f k)<|lk m k:=h.link k _<|(eA h.nodup).1<|mr e _
theorem cg.del(k:Int)(j:Only (λi=>i=x.lm) w w1)(g:bp w1 x.lm<|dB (dY (λk _=>ptr<|x.f k) m.links) k):
 cg w1 (grow G w.heap.size free) n b x {m with links:=dB m.links k}/\Step (aq [n]) G w (grow G w.heap.size free) w1:=by
 have d:Step (aq [n,4]) G w (grow G w.heap.size free) w1:=Step.of j (λk _ e=>by rw[e,h.tl];exact aq.self _) free
 refine⟨⟨h.blk.step d bb6,(d.old _ h.blk.lt).trans h.tag,h.q.step d λu f=>gX I! f,h.j.step d λu f=>gX I! f,h.k.step d λu f=>gX I! f,(d.old _ h.lm.lt).trans h.tl,(d.old _ h.pm.lt).trans h.tp,(d.old _ h.vm.lt).trans h.tv,?_,
  h.pm.step d bbR,h.vm.step d bba,h.xU.step d (cQ I!),h.got.step d (cQ I!),λi l y=>(h.link i l (List.mem_filter.1 y).1).step d λu f=>gX I! f⟩,d.mono λu f=>(aq.app [n] [4]).trans f⟩
 rw[fZ]at g;exact g
theorem cg.add{k:Int}{B:Nat}{l:aM}(R:au m.links k=H!)(d:Step (λu=>aq [n,9,k] u\/u=[n,4]) G w G1 w1)(H:cI w1 G1 [n,9,k] B l)
 (L:bp w1 x.lm<|bI (dY (λk _=>ptr<|x.f k) m.links) k<|ptr B):cg w1 G1 n b {x with f:=λi=>if i=k then B else x.f i} (bH m k l):=by
 have z:∀a t,a≠9->n::a::t≠[n,4]->¬(aq [n,9,k] (n::a::t)\/n::a::t=[n,4]):=λa t A E e=>by
  rcases e with e|e
  .exact cQ (X? A) e
  .exact E e
 have I:∀a t u,a≠9->a≠4->aq (n::a::t) u->¬(aq [n,9,k] u\/u=[n,4]):=λa t u A E j e=>by
  rcases e with e|rfl
  .exact gX A j e
  .exact cQ E j
 have O:∀c,(k,c)∉m.links:=λc S=>by
  have:=dI.2<|a!.2 ⟨_,S,rfl⟩;simp only at this;rw[R]at this;cases this
 refine⟨h.blk.step d (by rw[h.tag];rintro(e|e);exact mX e;simp at e),(d.old _ h.blk.lt).trans h.tag,h.q.step d λu=>I _ _ u I! I!,h.j.step d λu=>I _ _ u I! I!,h.k.step d λu=>I _ _ u I! I!,(d.old _ h.lm.lt).trans h.tl,(d.old _ h.pm.lt).trans h.tp,(d.old _ h.vm.lt).trans h.tv,?_,
  h.pm.step d (by rw[h.tp];exact z _ _ I! N!),h.vm.step d (by rw[h.tv];exact z _ _ I! N!),h.xU.step d (z _ _ I! N!),h.got.step d (z _ _ I! N!),λi c g=>?_⟩
 .have e:bI (dY (λk _=>ptr<|x.f k) m.links) k (ptr B)=dY (λi _=>ptr<|if i=k then B else x.f i) (bH m k l).links:=by
   show _=dY _ (bI m.links k l);rw[<-jK (λi (_:aM)=>ptr<|if i=k then B else x.f i),G? rfl];congr 1;refine A7 λy hy=>?_;rw[F!];intro e;exact O y.2 mbJ
  rw[<-e];exact L
 .change (i,c)∈bI m.links k l at g
  rw[yg (λy hy=>by
   rw[Q?];intro e;exact O y.2 mbJ),ό]at g
  rcases g with g|g
  .have N:i≠k:=λe=>O c (by rw[<-e];exact g);show cI _ _ _ (if i=k then B else x.f i) _;rw[F! N];refine(h.link i c g).step d λu j=>?_;rintro(e|rfl)
   .exact Lv N j e
   .exact cQ I! j
  .simp only[j?,baZ]at g;obtain⟨rfl,rfl⟩:=g;show cI _ _ _ (if i=i then B else x.f i) _;rw[G? rfl];exact H
end
structure aS(w:D!)(G:Nat->Tag)(n:Int)(b sb:Nat)(x:eY)(z:PS):Prop where
 p:cg w G n b x z.1
 s:aY w G [2] sb z.2
 xs:x.s=C! sb
 n01:n=0\/n=1
def bG(n:Int):Tag->Prop:=λu=>aq [n] u\/aq [2] u
def fu(n:Int)(b s:Nat)(G:Nat->Tag)(w:D!)(x:eY)(z h:PS)(r:I?)(e:Ending)(i:D!):Prop:=
 e=.returned r/\∃o x',aS i o n b s x' h/\Step (bG n) G w o i/\∀k,au z.1.links k=C?->x'.f k=x.f k
variable{z z':PS}{sb:Nat}
theorem aS.peer(h:aS w G n b sb x z){i:aF}{x':eY}(s:cg w1 G1 n b x' i)(r:x'.s=x.s)(o:Step (aq [n]) G w G1 w1):aS w1 G1 n b sb x' (i,z.2)/\Step (bG n) G w G1 w1:=by
 refine⟨⟨s,h.s.step o λu hu hv=>?_,r.trans h.xs,h.n01⟩,o.mono λu hu=>.inl hu⟩;exact ncY
theorem aS.switch(h:aS w G n b sb x z){i:aU}(o:Step (aq [2]) G w G1 w1)(s:aY w1 G1 [2] sb i):aS w1 G1 n b sb x (z.1,i)/\Step (bG n) G w G1 w1:=by
 refine⟨⟨h.p.step o λu hu hv=>?_,s,h.xs,h.n01⟩,o.mono λu hu=>.inr hu⟩;exact ncY
end
def ud(t:Tag)(b:Nat)(l':aM)(G:Nat->Tag)(w:D!)(r:I?)(e:Ending)(i:D!):Prop:=e=.returned r/\∃o,cI i o t b l'/\Step (aq t) G w o i
theorem ud.same{r:I?}(h:cI w G t b l):ud t b l G w r (.returned r) w:=⟨rfl,G,h,Step.refl _ _ _⟩
theorem cI.below(h:cI w G t b l)(e:K! w w1):cI w1 (grow G w.heap.size free) t b l/\Step (aq t) G w (grow G w.heap.size free) w1:=
 ⟨h.step (Step.below (T:=λ_=>False) e) λ_ _ h=>h,(Step.below (T:=λ_=>False) e).mono λ_ h=>h.elim⟩
theorem cM.below(h:cM w G t b x l)(e:K! w w1):cM w1 (grow G w.heap.size free) t b x l/\Step (aq t) G w (grow G w.heap.size free) w1:=
 ⟨h.step (Step.below (T:=λ_=>False) e) λ_ _ h=>h,(Step.below (T:=λ_=>False) e).mono λ_ h=>h.elim⟩
theorem Fa{t:Tag}{a c:Int}{s r u:Tag}(o:a≠c)(i:aq (t++(a::s)) u)(n:aq (t++(c::r)) u):False:=by
 rcases baX i n with h|h
 .have e:=(mfK t).1 h;rw[List.cons_prefix_cons]at e;exact o e.1
 .have e:=(mfK t).1 h;rw[List.cons_prefix_cons]at e;exact o e.1.symm
theorem cM.E8{T:Tag->Prop}(h:cM w G t b x l)(hs:Step T G w G1 w1)(e:∀a:Int,a≠4->∀u,aq (t++[a]) u->¬T u)
 (m:x'.n=x.n/\x'.tb=x.tb/\x'.o=x.o/\x'.pf=x.pf/\x'.tm=x.tm)(c:l'.neg=l.neg/\l'.proof=l.proof/\l'.term=l.term)
 (f:aO w1 b 107<|bS x' l')(g:Ct w1 G1 (t++[4]) b x'.oa x'.ob l'.out):cM w1 G1 t b x' l':=by
 obtain⟨n,i,r,z,E⟩:=m;obtain⟨y,j,q⟩:=c;have d:=hs.keep _ h.side.blk.lt (by rw[h.gn];exact e 0 I! _<|aq.self _);have e2:=hs.keep _ h.lt (by rw[h.gt];exact e 2 I! _<|aq.self _);refine⟨f,(hs.old _ h.blk.lt).trans h.tag,?_,?_,?_,?_,?_,?_,g,?_⟩
 .rw[n,i,r,y];exact⟨d.trans h.side.blk,λv s hv hs=>(World.cell?_of_block (by exact e2)).trans<|h.side.tab v s hv hs,aD.only h.side.os hs.only (λk o=>by rw[h.go k o];exact e 1 I! _<|aq.self _),h.side.tp,h.side.op,h.side.good,h.side.mlp⟩
 .rw[n];exact(hs.old _ h.side.blk.lt).trans h.gn
 .rw[i];exact Z! h.lt hs.size
 .rw[i];exact(hs.old _ h.lt).trans h.gt
 .rw[r];exact λk o=>(hs.old _<|aD.lt h.side.os k o).trans<|h.go k o
 .rw[z,j];exact h.pf.step hs<|e 3 I! _<|aq.self _
 .rw[E,q];exact h.tm.step hs<|e 5 I! _<|aq.self _
theorem zT{t:Tag}:∀a:Int,a≠4->∀u,aq (t++[a]) u->¬(λu=>u=t) u:=λa _ u o e=>by
 rw[show u=t from e]at o;exact eB o
theorem RH{t:Tag}:∀a:Int,a≠4->∀u,aq (t++[a]) u->¬(λu=>u=t\/u=t++[4]) u:=λa o u i e=>by
 rcases e with e|e
 .exact zT a o u i e
 .exact Fa o i (by rw[e];exact aq.self _)
theorem cM.own(h:cM w G t b x l)(f:Only (λk=>k=b) w w1)(o:l'.neg=l.neg/\l'.proof=l.proof/\l'.term=l.term/\l'.out=l.out)(m:aO w1 b 107<|bS x l'):
 cM w1 (grow G w.heap.size free) t b x l'/\Step (aq t) G w (grow G w.heap.size free) w1:=by
 have n:Step (λu=>u=t) G w (grow G w.heap.size free) w1:=Step.of f (λk _ e=>Ψ) free;refine⟨h.E8 n zT ⟨rfl,rfl,rfl,rfl,rfl⟩ ⟨o.1,o.2.1,o.2.2.1⟩ m ?_,n.mono λu hu=>baQ⟩;rw[o.2.2.2]
 exact h.out.step n (λe=>by
  have d:=e;have:=U! List.length d;simp at this)
theorem Ct.oa{e i:I?}{o:List UInt8}(h:Ct w G t b e i o):e=.pointer L?\/e=xk b:=by
 rcases h with⟨_,h,_⟩|⟨h,_⟩
 .exact .inl h
 .exact .inr h
theorem Ct.own{d e:I?}{o:List UInt8}(h:Ct w G t b d e o):Own w 0 e o/\∀k,e.ownBlock=C! k->G k=t/\k<w.heap.size:=by
 rcases h with⟨rfl,_,rfl⟩|⟨_,h,i⟩
 .exact⟨Own.nil _ _,λk hk=>o!⟩
 .refine⟨h,λk hk=>⟨i k hk,?_⟩⟩;rcases h.2 with⟨rfl,_⟩|⟨g,c,u,rfl,_,n,_⟩
  .cases hk
  .cases hk;exact(i!.1 n).1
theorem cM.sent(h:cM w G t b x l){o:I?}{s:List UInt8}(r:aO w1 b 107<|((bS x l).setIfInBounds 8<|xk b).setIfInBounds 9 o)(m:Own w1 0 o s)(c:Only (λk=>k=b\/x.ob.ownBlock=C! k) w w1)
 (g:∀k,o.ownBlock=C! k->x.ob.ownBlock=C! k\/(w.heap.size<=k/\k<w1.heap.size)):
 ∃G1,cM w1 G1 t b {x with oa:=xk b,ob:=o} {l with out:=s}/\Step (aq t) G w G1 w1:=by
 let⟨y,i⟩:=h.out.own;have n:Step (λu=>u=t\/u=t++[4]) G w (λk=>if k<w.heap.size then G k else t++[4]) w1:=Step.rule c (λk _ e=>e.imp (λe=>Ψ)<|λe=>(i k e).1) _;refine⟨_,h.E8 n RH ⟨rfl,rfl,rfl,rfl,rfl⟩ ⟨rfl,rfl,rfl⟩ r (.inr ⟨rfl,m,λk d=>?_⟩),n.mono λu f=>?_⟩
 .rcases g k d with e|e
  .exact(G? (i k e).2).trans (i k e).1
  .exact F! B!
 .rcases f with rfl|rfl
  .exact aq.self _
  .exact aq.app _ _
theorem kW(h:aO w b 107<|bS x l):G! E? 48 #[ptr b] w (T! w<|H? l.dF):=by
 have d:=h.k 3;unfold ptr aM.dF;by_cases h4:l.phase=4
 .have n:(l.phase==4)=true:=by simp[h4]
  have HD:=A?<|b! h4;go_wp2;go_ret;exact⟨by rw[HD.out];rfl,rfl⟩
 .have n:(l.phase==4)=false:=by simp[h4]
  exact nbD
theorem AL(h:aO w b 107<|bS x l):G! E? 149 #[ptr b] w (T! w<|H? l.building):=by
 have d:=h.k 3;unfold ptr aM.building;by_cases h4:l.phase=2
 .have n:(l.phase==2)=true:=by simp[h4]
  have HD:=A?<|b! h4;go_wp2;go_ret;exact⟨by rw[HD.out];rfl,rfl⟩
 .have n:(l.phase==2)=false:=by simp[h4]
  exact nbD
theorem zU(i:Int)(d:ByteArray)(h:cM w G t b x l)(N:l.out.length<=1099511627776)(A:d.size<=maxLen):
 G! E? 167 #[ptr b,A! i,D? d] w (ud t b (jO l i d.data.toList) G w (.tuple #[])):=by
 have s:=A? λw=>YT i d 0 w A;have m:=Gy i d.data.toList 0;unfold jO;generalize frameT i d.data.toList 0=R at s m|-;obtain⟨T,q⟩:=R;have g:=A? N;have y:=A? m;unfold ptr;by_cases c:q=0
 .subst c;rw[G? rfl];go_in;go_wp2_with fail;refine M! (s _) λw1 r=>?_;let⟨o,u⟩:=h.below r;let⟨z,O⟩:=o.out.own;have j:=A?<|RC (bytesOf T) o.blk rfl rfl o.out.oa rfl z (λk I e=>by have n:=(O k I).1;rw[e,o.tag]at n;have:=U! List.length n;simp at this) (by have:=g.out;have:=y.out;rw[aA];omega);go_wp2_with fail;apply j.mono;rintro e F ⟨rfl,M,E,D,S,L⟩;let⟨f,n,H⟩:=o.sent E D S L;have v:=A?<|u.trans H;go_wp2;go_end0;exact⟨rfl,f,⟨_,by have:=n;rwa[show(bytesOf T).data.toList=T from rfl]at this⟩,v⟩
 .rw[F! c];have C:=Q?.2 c;go_in;go_wp2_with fail;refine M! (s _) λw1 r=>?_;let⟨o,u⟩:=h.below r;go_wp2;go_end0;exact⟨rfl,_,⟨_,o⟩,u⟩
structure xo(w:D!)(G:Nat->Tag)(t:Tag)(v:I?)(ps:List nO):Prop where
 seq:aD t6 w v ps
 os:∀x∈ps,aI w (EO x) x.1.opts
 nv:∀k,v.ownBlock=C! k->¬aq t (G k)
 no:∀x∈ps,∀k,(EO x).ownBlock=C! k->¬aq t (G k)
 sz:∀x∈ps,x.1.data.size<=4611686018427387904
theorem xo.step{v:I?}{o:List nO}(h:xo w G t v o)(hs:Step (aq t) G w G1 w1):xo w1 G1 t v o:=
 ⟨aD.only h.seq hs.only h.nv,λx e=>aD.only (h.os x e) hs.only<|h.no x e,λk hk=>mdt,λx e k hk=>by rw[hs.old k<|aD.lt (h.os x e) k hk];exact h.no x e k hk,h.sz⟩
theorem xo.cells{a:Option Addr}{n c:Nat}{e:List nO}(h:xo w G t (J! a n c) e)(j:Nat)(i:j<e.length):
 ∃g o,a=C! (B? g o)/\g<w.heap.size/\n=e.length/\n<=c/\c<=maxLen/\w.cell? (B? g<|o+j*4)=N? (e[j].1.code)/\w.cell? (B? g<|o+j*4+1)=N? (e[j].1.id)/\w.cell? (B? g<|o+j*4+2)=C! (EO e[j])/\w.cell? (B? g<|o+j*4+3)=C! (D? e[j].1.data):=by
 rcases h.seq with⟨r,_⟩|⟨g,o,y,f,d,u,m,s⟩
 .subst r;cases i
 .cases f;refine⟨g,o,rfl,m,rfl,d,u,?_,?_,?_,?_⟩
  .have:=s j i 0 I!;simpa[t6]using this
  .have:=s j i 1 I!;simpa[t6]using this
  .have:=s j i 2 I!;simpa[t6,EO]using this
  .have:=s j i 3 I!;simpa[t6]using this
theorem LG(l:aM)(e:List bg)(j:Nat)(o:j<e.length):dn l (e.take<|j+1)=nN (dn l<|e.take j) e[j]:=by
 unfold dn;rw[u! o,ϙ];rfl
theorem LH(q:bg):(aW q).1.length<=2048:=by
 unfold aW;split
 .exact S! _
 .split
  .exact S! _
  .split
   .exact S! _
   .rename_i h;have e:q.data.data.toList.length=q.data.size:=rfl;simp only[X!,V!,l?,e];omega
theorem iw{v:I?}{e:List nO}(h:cI w G t b l)(E:xo w G t v e)(b2:t≠[])(u:l.out.length+4110*e.length<=1099511627776):
 G! E? 121 #[ptr b,v] w (ud t b (dn l<|e.map (·.1)) G w (.tuple #[])):=by
 have aa:=aD.le E.seq;obtain⟨a,ar,rfl,a8,_⟩:=aD.form E.seq;have a1:=A?<|λ(d:ByteArray) (a9:d.size<=maxLen) (w1:D!) (G1:Nat->Tag) (K:aM) (an:pV) (r:cM w1 G1 t b an K) (u:K.out.length<=1099511627776)=>zU 49185 d r u a9;have Q:=A?<|λ(k:bg) (v:I?) (w1:D!) (ad:aI w1 v k.opts) (al:k.data.size<=4611686018427387904)=>yP v k w1 ad al;let⟨n,Y⟩:=F? e.length;have HN:=A? Y;rw[Y]at aa a8 u|-;have a0:=A? u;unfold ptr;go_wp2;go_loopw[10] (λi wr=>∃j:Nat,j<=n/\i=A! j/\E! (∃I,cI wr I t b (dn l<|(e.map (·.1)).take j)/\Step (aq t) G w I wr)) (λi _=>n-(intOf i).toNat)
 case atStart=>exact⟨0,S! _,rfl,A? ⟨G,h,Step.refl _ _ _⟩⟩
 case round=>
  obtain⟨j,b0,rfl,N⟩:=hrel;by_cases hlt:j<n
  .have c:j<e.length:=Δ;let⟨G1,o,m⟩:=N.out;have A:=E.step m;have B:=A.os _<|l! c;have V:=A.sz _<|l! c;obtain⟨ax,b3,rfl,az,-,-,-,H,D,g,C⟩:=A.cells j c;have F:j+1<=n:=hlt
   have W:(dn l<|(e.map (·.1)).take j).out.length<=1099511627776:=by
    have r:=rY ((e.map (·.1)).take j) l;have y:=a0.out;rw[w!,g!,HN.out]at r;have:min j n=j:=B!;rw[this]at r;omega
   have f:E! (dn l ((e.map (·.1)).take (j+1))=nN (dn l ((e.map (·.1)).take j)) e[j].1):=A? (by
    have:=LG l (e.map (·.1)) j (by rw[g!];exact c);rw[bb2]at this;exact this)
   generalize dn l ((e.map (·.1)).take j)=L at o W f;obtain⟨⟨k,X,J⟩,ae⟩:∃ao,e[j]=ao:=⟨_,rfl⟩;rw[ae]at H D g C B V f;have M:K! wr<|wr.alloc (.cells #[A! k.code,A! k.id,EO (k,X,J),D? k.data] 220):=R!;have q:=A?<|Q k (EO (k,X,J)) _ (aD.below B M) V;have R:=LH k;have O:E!<|nN L k=if(aW k).2=0 then jO L 49185 (aW k).1 else L:=A? rfl
   generalize aW k=a4 at q R O;obtain⟨T,a5⟩:=a4;have s:=A?<|o.below M;have HLn:=A? R;have am:=A? W;unfold EO at g q;simp only at H D g C;go_wp2_with fail;refine M! q λb4 a7=>?_;let⟨y,ab⟩:=s.1.below a7;have S:=A?<|(m.trans s.2).trans ab;by_cases z:a5=0
   .subst z;obtain⟨b6,ag⟩:=y;have a3:=A?<|a1 (bytesOf T) mdo _ _ _ _ ag am;go_wp2_with fail;apply a3.mono;rintro av b5 ⟨rfl,ap,a6,ac⟩;have a2:=A?<|S.trans ac;go_wp2;go_roundw
    case rel=>exact⟨j+1,F,W!,A? ⟨_,(by rw[f.out,O.out,G? trivial];exact a6),a2⟩⟩
    case measure=>simp[intOf];omega
   .have b1:=Q?.2 z;have Z:=A? z;go_wp2;go_roundw
    case rel=>exact⟨j+1,F,W!,A? ⟨_,by rw[f.out,O.out,F! Z.out];exact y,S⟩⟩
    case measure=>simp[intOf];omega
  .obtain rfl:j=n:=B!;let⟨G1,o,m⟩:=N.out;rw[u?<|by rw[g!,HN.out];exact Y? _]at o;have s:=A? o;go_wp2;go_end0;exact⟨rfl,G1,s,m⟩
theorem LR(p:Int):((aE p).toNat:Int)=p%256:=by
 unfold aE;rw[UInt8.toNat_ofNat_of_lt' (by have:(UInt8.size:Nat)=256:=rfl;omega)];omega
theorem OM(z:Int):Lib.byteCells (Jx z)=[.int .u8<|z/16777216%256,.int .u8<|z/65536%256,.int .u8<|z/256%256,.int .u8<|z%256]:=by
 unfold Jx Lib.byteCells;simp only[i?,y!,LR]
theorem R6(e:List Int)(j:Nat)(o:j<e.length):words (e.take<|j+1)=words (e.take j)++Jx e[j]:=by
 unfold words;rw[u! o,ϣ];simp
theorem vJ(e:List Int):(words e).length=4*e.length:=by
 unfold words
 induction e with
 |nil=>rfl
 |cons a e o=>rw[ϐ,X!,o,V!];show 4+_=_;omega
theorem mI{v:I?}{ns:List Int}(h:aD mU w v ns)(R:ns.length<=1000):
 G! E? 134 #[v] w (S? w<|D?<|bytesOf<|words ns):=by
 have S:=aD.le h;obtain⟨a,c,rfl,A,_⟩:=aD.form h;let⟨n,y⟩:=F? ns.length;have HN:=A? y;rw[y]at S A R|-;go_wp2;go_loopw[3,8] (λu i wr=>∃j:Nat,j<=n/\i=A! j/\E! (Own wr w.heap.size u<|words<|ns.take j)/\K! w wr) (λu i _=>n-(intOf i).toNat)
 case atStart=>exact⟨0,S! _,rfl,A?<|Own.nil _ _,P! _ _⟩
 case round=>
  obtain⟨j,K,rfl,e,r⟩:=hrel;by_cases hlt:j<n
  .have s:j<ns.length:=Δ;have N:j+1<=n:=hlt
   obtain⟨g,o,rfl,hcell⟩:∃g o,a=C! (B? g o)/\w.cell? (B? g<|o+j)=N? (ns[j]):=by
    rcases h with⟨E,_⟩|⟨g,o,F,H,W,Y,V,O⟩
    .rw[E]at s;cases s
    .cases H;refine⟨g,o,rfl,?_⟩;have:=O j s 0 I!;simpa[mU]using this
   have q:=aw r hcell;have m:=A?<|R6 ns j s;have f:(words<|ns.take j).length<=4000:=by rw[vJ,w!];omega
   generalize ns[j]=z at q m;generalize words (ns.take j)=P at e m f;have D:=A? f;have I:=OM z;obtain⟨C,M,rfl⟩:=e.out.form;go_wp2_with(at_builtin;refine mw rfl _ _ rfl w _ _ (Jx z) 4 _ _ e.out rfl rfl (by rw[I]) rfl (by have:=D.out;show _+4<=_;omega) r ?_;intro X w1 L k);go_roundw
   case rel=>exact⟨j+1,N,W!,A?<|by rw[m.out];exact L,k⟩
   case measure=>simp[intOf];omega
  .obtain rfl:j=n:=B!;have d:=e.out;rw[u?<|by rw[HN.out];exact Y? _]at d;have B:=d.conv;obtain⟨C,M,rfl⟩:=d.form;go_wp2;go_ret;exact⟨rfl,r⟩
structure Env(w:D!)(G:Nat->Tag)(ml:Int):Prop where
 m:dm w ml
 g:G 0=free
theorem Env.step{o:Int}{T:Tag->Prop}(h:Env w G o)(e:Step T G w G1 w1)(n:¬T free):Env w1 G1 o:=by
 have i:=h! h.m;exact⟨e.cell h.m<|by rw[h.g];exact n,(e.old _ i).trans h.g⟩
theorem R7{s:cu}{e:Int}{r:cL}{q:bg}{B:Nat}(o:r.p.data.size<=B)(i:64<=B)(h:(nk s e r).2=C! q):q.data.size<=B:=by
 unfold nk at h;split at h
 .cases h;exact S! _
 .split at h
  .cases h;exact S! _
  .split at h
   .cases h;exact S! _
   .split at h
    .cases h;exact S! _
    .split at h
     .cases h;exact S! _
     .split at h
      .cases h;show(bytesOf<|(aW r.p).1.take 64).size<=B;rw[aA,w!];omega
      .split at h
       .simp only at h;split at h
        .cases h;exact o
        .cases h
       .cases h
theorem GP{r:cL}{B:Nat}(s:r.p.data.size<=B)(n:64<=B):∀(o:List Int) (x:cu×List bg),(∀q∈x.2,q.data.size<=B)->∀q∈(o.foldl (FH r) x).2,q.data.size<=B
 |[],x,h=>h
 |a::o,x,h=>by
  rw[r!];refine GP s n o _ λq e=>?_;unfold FH at e;rcases ό.1 e with e|e
  .exact h q e
  .cases i:(nk (kD x.1 a) a r).2 with
   |none=>rw[i]at e;cases e
   |some y=>
    rw[i]at e;simp at e;subst e;exact R7 s n i
theorem DB{s:cu}{e:Int}{r:cL}{B:Nat}(n:r.p.data.size<=B)(i:64<=B):∀q∈(qj s e r).2.1,q.data.size<=B:=by
 unfold qj;split
 .intro q o;cases o
 .exact GP (r:={r with event:=e}) n i _ _ λq o=>by cases o
theorem OO(s:cu)(e:Int):∀q∈(yo s e).2.1,q.data.size<=4096:=by
 unfold yo;split
 .exact DB (S! _) I!
 .split
  .exact DB (S! _) I!
  .intro q o;cases o
theorem aab(s:cu)(p:bg):(kg s p).2.1.p=p:=by
 unfold kg;split
 .rfl
 .split
  .rfl
  .split
   .split<;>rfl
   .rfl
theorem mJ(s:cu)(p:bg)(o:p.data.size<=4096):∀q∈(dU s p).2.1,q.data.size<=4096:=by
 unfold dU;split
 .intro q e;cases e
 .split
  .intro q e;cases e
  .split
   .intro q e;cases e
   .exact DB (by rw[aab];exact o) I!
theorem cM.aiB{ml:Int}{X:cu×List bg×Int}{v s:I?}{m:List nO}(h:cM w G t b x l)(z:t≠[])(c:jl w1 w.heap.size v m)(O:m.map (·.1)=X.2.1)(R:xJ w1 x.n x.tb s X.1)
 (r:li w1 w.heap.size x.o s l.neg X.1)(H:yR s m)(S:Only (· =x.n) w w1)(D:∀q∈X.2.1,q.data.size<=4096):
 ∃G1,cM w1 G1 t b {x with o:=s} {l with neg:=X.1}/\Step (aq t) G w G1 w1/\xo w1 G1 t v m:=by
 classical
 have n:Step (λu=>u=t++[0]) G w (λk=>if k<w.heap.size then G k else if s.ownBlock=C! k then t++[1]else free) w1:=Step.rule S (λk _ e=>by rw[e,h.gn]) _
 have g:∀a:Int,a≠0->∀u,aq (t++[a]) u->¬(λu=>u=t++[0]) u:=λa I u hu e=>by
  have E:u=t++[0]:=e;subst E;exact Fa I hu<|aq.self _
 have L:¬(λu=>u=t++[0]) t:=λe=>by have:=U! List.length e;simp at this
 have j:∀k,w.heap.size<=k->s.ownBlock≠C! k->(if k<w.heap.size then G k else if s.ownBlock=C! k then t++[1]else free)=free:=λk C A=>by rw[F! B!,F! A]
 refine⟨_,⟨h.blk.step n<|by rw[h.tag];exact L,(n.old _ h.blk.lt).trans h.tag,R,(n.old _ h.side.blk.lt).trans h.gn,Z! h.lt n.size,(n.old _ h.lt).trans h.gt,λk i=>?_,h.pf.step n<|g 3 I! _<|aq.self _,h.out.step n<|g 4 I! _<|aq.self _,h.tm.step n<|g 5 I! _<|aq.self _⟩,n.mono λu hu=>mes,?_⟩
 .rcases r with⟨rfl,_⟩|r
  .have N:=aD.lt h.side.os k i;show(if k<w.heap.size then _ else _)=_;rw[G? N];exact h.go k i
  .have:=r.block k i;show(if k<w.heap.size then _ else _)=_;rw[F! B!,G? i]
 .refine⟨c.1.at,λy d=>(c.2 y d).at,λk i=>?_,λy d k i=>?_,λy d=>?_⟩
  .have f:=c.1.block k i;show¬aq t (if k<w.heap.size then _ else _);rw[j k f ?_]
   .exact aJ z
   .intro e;rcases r with⟨rfl,_⟩|r
    .have:=aD.lt h.side.os k e;omega
    .exact Ll t7 r c.1 k e i
  .have f:=(c.2 y d).block k i;show¬aq t (if k<w.heap.size then _ else _);rw[j k f<|H y d k i];exact aJ z
  .have:=D y.1 (by rw[<-O];exact a!.2 ⟨y,d,rfl⟩);omega
section
variable{ml:Int}
theorem acZ(W:D!)(G:Nat->Tag)(r:t≠[])(q:bg)(s:q.opts=[])(h:q.data.size<=4611686018427387904):
 xo (W.alloc (.cells #[A! q.code,A! q.id,Q!,D? q.data] 220)) (grow G W.heap.size free) t (J! (C!<|B? W.heap.size 0) 1 1) [(q,L?,0)]:=by
 have n:=bq.one t6 W (q,L?,0) W.heap.size O?
 have e:(t6.enc (q,L?,0)).toArray= #[A! q.code,A! q.id,Q!,D? q.data]:=by
  show#[Value.int .i64 q.code,A! q.id,J! L? q.opts.length 0,D? q.data]=_;rw[s];rfl
 rw[e]at n;refine⟨n.at,λx o=>?_,λk i=>?_,λx o k i=>?_,λx o=>?_⟩
 .rw[j?]at o;subst o;show aD dS _ (J! L? q.opts.length 0) q.opts;rw[s];exact aD.nil _ _
 .have:=n.block k i;rw[fE G free this];exact aJ r
 .rw[j?]at o;subst o;cases i
 .rw[j?]at o;subst o;exact h
theorem ze(o:Int)(h:cI w G t b l)(n:t≠[])(j:l.out.length<=549755813888):
 G! E? 123 #[ptr b,A! o] w (ud t b (lC l o) G w (.tuple #[])):=by
 have m:=A? λw=>mI (w:=w.alloc (.cells #[A! o] 3)) (ns:=[o]) (bq.one mU w o 0<|S! _).at N!
 have d:=A? (λ(W:D!) (G1:Nat->Tag) (i:cI W G1 t b l)=>iw (i.below (ak U? (.cells #[A! 9,A! 1,Q!,D? (bytesOf (words [o]))] 220))).1
  (acZ W G1 n ⟨9,1,[],bytesOf (words [o])⟩ rfl (by rw[show(⟨9,1,[],bytesOf (words [o])⟩:bg).data=bytesOf (words [o])from rfl,aA,vJ];simp)) n (by show l.out.length+4110*1<=_;omega))
 unfold ptr;go_in;go_wp2_with fail;refine M! (m _) λw1 y=>?_;have g:=R!.trans<|y.mono N!;let⟨i,v⟩:=h.below g;have r:=A?<|d w1 _ i;have c:=A?<|v.trans (i.below<|ak U? (.cells #[A! 9,A! 1,Q!,D?<|bytesOf<|words [o]] 220)).2;go_wp2_with fail;apply r.mono;rintro e q ⟨rfl,s,f,k⟩;have u:=A?<|c.trans k;go_wp2;go_end0;exact⟨rfl,s,f,u⟩
theorem cM.CP{X:cu×List bg×Int}{e:Ending}(h:cM w G t b x l)(z:t≠[])(g:mW x.n x.tb x.o l.neg X ml w e w1)(E:∀q∈X.2.1,q.data.size<=4096):
 ∃v i G1 n,e=.returned (.tuple #[v,A! X.2.2])/\cM w1 G1 t b {x with o:=n} {l with neg:=X.1}/\Step (aq t) G w G1 w1/\xo w1 G1 t v i/\i.map (·.1)=X.2.1:=by
 obtain⟨v,i,n,u,y,s,k,⟨m,j⟩,f,A⟩:=g;let⟨G1,r,d,c⟩:=cM.aiB (ml:=ml) h z y s k m j f E;exact⟨v,i,G1,n,u,r,d,c,s⟩
def El(l:aM)(j:Nat):aM:=if j=0 then l else if j=1 then wk l 2 else wk (wk l 2) 0
def ac0(j:Nat):Int:=if j=0 then 2 else 0
theorem R8(l:aM){j:Nat}(e:j<2):El l (j+1)=wk (El l j) (ac0 j):=by
 rcases(by omega:j=0\/j=1)with rfl|rfl<;>rfl
theorem UE(l:aM)(e:Int):(wk l e).out.length<=l.out.length+32880:=by
 have:=rY (yo l.neg e).2.1 {l with neg:=(yo l.neg e).1};have o:=Cy l.neg e;unfold wk;simp only at this;omega
theorem WK(l:aM)(j:Nat):(El l j).out.length<=l.out.length+65760:=by
 have e:=UE l 2;have o:=UE (wk l 2) 0;unfold El;split
 .omega
 .split<;>omega
def afc(t:Tag)(b:Nat)(o:aM)(B:Nat)(G:Nat->Tag)(w:D!)(ml:Int)(j:Nat)(wr:D!):Prop:=
 ∃e x,cM wr e t b x (El o j)/\Step (aq t) G w e wr/\Env wr e ml/\aO wr B 3 #[A! 2,A! 0]/\e B=free
theorem R9(at_:Int)(h:cI w G t b l)(ap:Env w G ml)(E:t≠[])(N:l.out.length<=549755813888):
 G! E? 153 #[ptr b,A! at_] w (ud t b (Bf l at_) G w (.tuple #[])):=by
 have a5:=A?<|λ(w1:D!) (G1:Nat->Tag) (u:pV) (y:aM) (d:cM w1 G1 t b u y) (ae:Env w1 G1 ml) (m:Int)=>Ux u.n u.tb u.o y.neg m ml w1 d.side ae.m;have b2:=A?<|λ(w1:D!) (G1:Nat->Tag) (y:aM) (v:I?) (f:List nO) (d:cI w1 G1 t b y) (S:xo w1 G1 t v f) (N:y.out.length+4110*f.length<=1099511627776)=>iw d S E N;obtain⟨x,h⟩:=h;have b7:=h.blk.cell 10;have b9:=h.blk.frozen 10;obtain⟨A,R⟩:=h.own (l':={l with at_:=at_}) (ay w b 10<|A! at_) ⟨rfl,rfl,rfl,rfl⟩<|h.blk.set 10 _ rfl;obtain⟨n,O⟩:=F? ({l with at_:=at_}:aM);have ao:Bf l at_=El n 2:=by rw[<-O];rfl
 have az:n.out.length<=549755813888:=by rw[<-O];exact N
 rw[O]at A;rw[ao];have F:=A?<|ap.step R<|aJ E;have a7:=A? az;obtain⟨W,an⟩:=F?<|w.setCell (B? b 10)<|A! at_;rw[an]at A R F
 have a4:E! (afc t b n W.heap.size G w ml 0 (W.alloc (.cells #[A! 2,A! 0] 3))):=A? (by
  obtain⟨b1,Z⟩:=A.below<|ak (P! W.heap.size W) (.cells #[A! 2,A! 0] 3);exact⟨_,x,b1,R.trans Z,F.step Z (aJ E),aO.new W _ _,fE _ free O?⟩)
 have g:=A? E;unfold ptr;go_wp2;go_loopw[14] (λi wr=>∃j:Nat,j<=2/\i=A! j/\E! (afc t b n W.heap.size G w ml j wr)) (λi _=>2-(intOf i).toNat)
 case atStart=>exact⟨0,I!,rfl,a4⟩
 case round=>
  obtain⟨j,bd,rfl,a8⟩:=hrel;obtain⟨G1,u,d,Q,X,I,av⟩:=a8.out;by_cases J:j<2
  .have ax:j+1<=2:=J
   have ad:wr.cell? (B? W.heap.size j)=N? (ac0 j):=by
    rw[I.cell j];rcases(by omega:j=0\/j=1)with rfl|rfl<;>rfl
   have b8:wr.cell? (B? b 0)=C! (P? u.n):=d.blk.k 0;have D:=R8 n J;have C:=WK n j;have H:=A?<|a5 wr G1 u _ d X<|ac0 j;obtain⟨L,am⟩:=F?<|El n j;rw[am]at d D C H;obtain⟨m,ar⟩:=F?<|ac0 j;rw[ar]at ad D H;have Y:=A? av;have b3:=A? D;have b4:=A? C;have al:=A?<|Cy L.neg m;go_wp2_with fail;apply H.mono;rintro e a0 S;obtain⟨v,f,a1,bf,rfl,ag,k,b0,K⟩:=d.CP g S<|OO _ _;have be:f.length=(yo L.neg m).2.1.length:=by rw[<-K,g!]
   have ab:=A? (b2 a0 a1 _ v f ⟨_,ag⟩ b0 (by
    have V:=b4.out;have ba:=a7.out;have bc:=al.out;show L.out.length+_<=_;omega))
   have aa:=A?<|Q.trans k;have a6:=A?<|X.step k<|aJ g;have M:E!<|aO a0 W.heap.size 3 #[A! 2,A! 0]:=A?<|k.heap I<|by rw[Y.out];exact aJ g
   have B:=A?<|(k.old _ I.lt).trans Y;have ac:=A? K;go_wp2_with fail;apply ab.mono;rintro e b5 ⟨rfl,a2,⟨b6,V⟩,z⟩
   have a9:E! (afc t b n W.heap.size G w ml (j+1) b5):=A? ⟨a2,b6,by
    rw[b3.out];have e:wk L m=dn {L with neg:=(yo L.neg m).1} (f.map (·.1)):=by rw[ac.out];rfl
    rw[e];exact V,aa.trans z,a6.step z (aJ g),z.heap M (by rw[B.out];exact aJ g),(z.old _ M.lt).trans B⟩
   go_wp2
   go_roundw
   case rel=>exact⟨j+1,ax,W!,a9⟩
   case measure=>simp[intOf];omega
  .obtain rfl:j=2:=B!;have a3:E!<|cI wr G1 t b<|El n 2:=A? ⟨u,d⟩;go_wp2;go_end0;exact⟨rfl,G1,a3,Q⟩
end
