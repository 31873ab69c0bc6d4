/- Walks and plain laws. -/
import Derived.Test.YtncddkcponjlpaaGreatDoorK08
set_option linter.unusedVariables false
set_option linter.unusedSimpArgs false
set_option maxHeartbeats 0
set_option maxRecDepth 99999
namespace Go.Proofs.YtncddkcponjlpaaGreatDoor
open Go.RowKit Go.Proofs.Tryz
open Go renaming World→D!,Value→I?,Calls→G!,IntKind→ncy
open Go.RowKit renaming Hid→E!
open Decidable renaming decide→K?
open Option renaming some→C!,none→L?
open Bool renaming true→C?,false→H!
open Go.Proofs.Tryz renaming prog→E?
variable{P:Prop}
def sW(t:Nat)(o:I?)(s:cu):Array Value:= #[P? t,A! s.state,A! s.left,A! s.tries,A! s.own.iO,A! s.own.aH,A! s.own.cW,H? s.own.short,D? s.own.dh,A! s.own.num,A! s.other.iO,A! s.other.aH,A! s.other.cW,H? s.other.short,D? s.other.dh,A! s.other.num,A! s.id,A! s.asked,o]
def bJ(w:D!)(p t:Nat)(o:I?)(s:cu):Prop:=w.heap[p]? =C! (.cells (sW t o s) 242 (0,0))
section
variable{w:D!}{p t:Nat}{o:I?}{s:cu}(h:bJ w p t o s)(i:Nat)
include h i
theorem bJ.set(x:I?)(e:I?)(n:cu)(r:(sW t o s).setIfInBounds i x=sW t e n):bJ (w.setCell (B? p i) x) p t e n:=by
 have:=ba4 w p i (sW t o s) 242 x h;rw[r]at this;exact this
theorem bJ.cell:w.cell? (B? p i)=(sW t o s)[i]? :=by
 unfold bJ at h;simp[World.cell?,h]
theorem bJ.k{v:I?}(e:Nfx (sW t o s).toList i v:=by repeat(first|exact Nfx.z _ _|apply Nfx.s)):L! w p i v:=Nfx.of (h.cell i) e
theorem bJ.frozen:w.frozen? (B? p i)=false:=by
 unfold bJ at h;simp[World.frozen?,h]
end
theorem F9(p t:Nat)(o:I?)(s:cu)(w:D!)(h:bJ w p t o s)(u:0<=s.id/\s.id<=255):
 G! E? 246 #[P? p] w λe l=>e=.returned (A! (oK s).id)/\bJ l p t o (oK s)/\Only (· =p) w l:=by
 have m:=h.k 16;have g:=h.frozen 16;have n:=h.set 16 (A!<|(s.id+1)%256) o (oK s) rfl;have f:J? (w.setCell (B? p 16)<|A!<|(s.id+1)%256) p 16<|(s.id+1)%256:=n.k 16;have z:IntKind.i64.wrap (s.id+1)=s.id+1:=ϫ _ B!;have j:(s.id+1).tmod 256=(s.id+1)%256:=baB B!;have d:=A?<|show(oK s).id=(s.id+1)%256 from rfl;obtain⟨y,k⟩:=u;go_wp2;go_ret;exact⟨by rw[d.out];rfl,n,ay _ _ _ _⟩
theorem JG(p t:Nat)(o:I?)(s:cu)(w:D!)(h:bJ w p t o s)(l:0<=s.left/\s.left<=10):
 G! E? 245 #[P? p] w λe n=>e=.returned (.tuple #[])/\bJ n p t o (lP s)/\Only (· =p) w n:=by
 have d:=h.k 2;have u:=h.frozen 2;have g:IntKind.i64.wrap (s.left-1)=s.left-1:=ϫ _ B!;have hs:=h.set 2 (A!<|max 0<|s.left-1) o (lP s) rfl;obtain⟨m,f⟩:=l;exact mcO
theorem bJ.below{w e:D!}{p t:Nat}{o:I?}{s:cu}(h:bJ w p t o s)(i:K! w e):bJ e p t o s:=bb i h
theorem bJ.lt{w:D!}{p t:Nat}{o:I?}{s:cu}(h:bJ w p t o s):p<w.heap.size:=(i!.1 h).1
theorem kT.only{S:Nat->Prop}{w t:D!}{e:Nat}{v:I?}{l:List Int}(h:kT w e v l)(ho:Only S w t)(hn:∀k,v.ownBlock=C! k->¬S k):kT t e v l:=by
 exact ncD
section
variable(p t:Nat)(o:I?)(s:cu)(ev ml:Int)(w:D!)(h:bJ w p t o s)(ht:kC w t)(hm:dm w ml)
include p t o s ev ml w h ht hm
theorem Zf(y:(bN s.state ev).2.2≠0):
 G! E? 209 #[P? p,A! ev] w (S? w (.tuple xaC)):=by
 have u:=Jt t s.state ev ml (w.drew) (λv s E hs=>ht v s E hs) hm;have g:=h.k 0;have m:=h.k 1;generalize bN s.state ev=X at y u;obtain⟨n,O,x⟩:=X;generalize s.state=A at m u;dsimp only at y u;go_wp2;refine dW (λj=>L! j p 0 (P? t)/\J? j p 1 A) (zcb [9,1,7]) ⟨g,m⟩ ?_;refine R? ?_;intro K z;go_wp2_with(go_at_call 244;apply u.mono;rintro e w1 ⟨N,rfl,I,f⟩);refine O! z ⟨af f g,af f m⟩ ?_;refine T? ?_;go_wp2;go_ret2;exact⟨rfl,(P! _ _).drew.trans f⟩
theorem VQ(j:(bN s.state ev).2.2=0):
 G! E? 209 #[P? p,A! ev] w λe u=>∃v,e=.returned (.tuple #[v,A! 0])/\kT u w.heap.size v (bN s.state ev).2.1/\bJ u p t o {s with state:=(bN s.state ev).1}/\Only (· =p) w u:=by
 have f:=Jt t s.state ev ml (w.drew) (λv s C hs=>ht v s C hs) hm;have z:=h.k 0;have g:=h.k 1;generalize bN s.state ev=X at j f|-;obtain⟨n,O,x⟩:=X;generalize s.state=M at g f;dsimp only at j f|-;subst j;have L:=h.lt;go_wp2;refine dW (λu=>L! u p 0 (P? t)/\J? u p 1 M) (zcb [9,1,7]) ⟨z,g⟩ ?_;refine R? ?_;intro K N;go_wp2_with(go_at_call 244;apply f.mono;rintro e w1 ⟨A,rfl,E,m⟩);refine O! N ⟨af m z,af m g⟩ ?_;refine T? ?_;have y:=bJ.below (w:=w.drew) h m;have G:=y.frozen 1;have F:=y.k 1;have D:=y.set 1 (A! n) o {s with state:=n} rfl;have H:kT (w1.setCell (B? p 1)<|A! n) w.heap.size A O:=kT.only E (ay w1 p 1 _) λk R e=>by have:=E.block k R;subst e;exact absurd L (by simpa using this)
 have I:K! w w1:=(P! _ _).drew.trans m;go_wp2;go_ret2;exact⟨A,rfl,H,D,(Only.aP I).trans<|ay _ _ _ _⟩
end
section
variable{w:D!}{B:Nat}{x0 x1 x2 x3:I?}{T:TypeId}(hh:w.heap[B]? =C! (.cells #[x0,x1,x2,x3] T (0,0)))
include hh
theorem lg(e t o i:I?):
 ((((w.setCell (B? B 0) e).setCell (B? B 1) t).setCell (B? B 2) o).setCell (B? B 3) i).heap[B]? =C! (.cells #[e,t,o,i] T (0,0)):=by
 simp[World.setCell,ba8,hh]
theorem cY:
 w.cell? (B? B 0)=C! x0/\w.cell? (B? B 1)=C! x1/\w.cell? (B? B 2)=C! x2/\w.cell? (B? B 3)=C! x3:=by
 refine⟨?_,?_,?_,?_⟩<;>simp[World.cell?,hh]
end
theorem bw{w:D!}{B:Nat}{x:Array I?}{T:TypeId}(e:w.heap[B]? =C! (.cells x T (0,0)))(i:Nat):w.frozen? (B? B i)=false:=by
 simp[World.frozen?,e]
theorem NV{w w1 e:D!}{p t:Nat}{o:I?}{s:cu}{m:Obj}(b:bJ e p t o s)(f:Only (· =p) (w.alloc m) w1)(g:Only (· =p) w1 e)(q:p<w.heap.size)(r l d c:I?):
 bJ ((((e.setCell (B? w.heap.size 0) r).setCell (B? w.heap.size 1) l).setCell (B? w.heap.size 2) d).setCell (B? w.heap.size 3) c) p t o s/\Only (· =p) w ((((e.setCell (B? w.heap.size 0) r).setCell (B? w.heap.size 1) l).setCell (B? w.heap.size 2) d).setCell (B? w.heap.size 3) c):=by
 have v:=(((Only.refl (· =p) w).alloc m).trans f).trans g;have n:∀(W:D!),Only (λk=>k=w.heap.size) e W->∀(i:Nat) (y:I?),Only (λk=>k=w.heap.size) e<|W.setCell (B? w.heap.size i) y:=λW h i y=>h.set (a:=B? w.heap.size i) (.inl rfl) y;have u:=n _ (n _ (n _ (n _ (Only.refl _ e) 0 r) 1 l) 2 d) 3 c;exact⟨u.heap b B!,v.and u<|λi j=>.inr B!⟩
theorem VU(p t:Nat)(o:I?)(s:cu)(A:I?)(w:D!)(h:bJ w p t o s)(y:0<=s.id/\s.id<=255)(b:0<=s.left/\s.left<=10):
 G! E? 210 #[P? p,A! 10,A] w λe m=>e=.returned (.tuple #[.agg #[A! 5,A! (oK<|lP s).id,Q!,D? ⟨#[]⟩],H? C?])/\bJ m p t o (oK<|lP s)/\Only (· =p) w m:=by
 have g:∀n:Obj,K! w<|w.alloc n:=λn=>ak U? n;have O:=λn=>JG p t o s (w.alloc n) (h.below<|g n) b;have u:=λw1 (f:bJ w1 p t o<|lP s)=>F9 p t o (lP s) w1 f y;have E:=h.lt;generalize (oK<|lP s).id=r at u|-;go_in;go_wp2_with fail;apply(O _).mono;rintro e w1 ⟨rfl,k,d⟩;go_wp2_with fail;apply(u _ k).mono;rintro e M ⟨rfl,j,c⟩;have l:¬(w.heap.size=p):=B!;have i:=c.heap (d.heap (c! w (.cells xac 220 (0,0))) l) l;let⟨I,N,S,R⟩:=cY i;have H:=bw i 0;have L:=bw i 1;have D:=bw i 2;have C:=bw i 3;go_wp2_with fail;let⟨k0,k1,k2,k3⟩:=cY<|lg i (A! 5) (A! r) Q!<|D? ⟨#[]⟩;let⟨q,z⟩:=NV j d c E (A! 5) (A! r) Q!<|D? ⟨#[]⟩;refine V? (v:=.tuple #[.agg #[A! 5,A! r,Q!,D? ⟨#[]⟩],H? C?]) baK rfl ⟨rfl,q,z⟩
theorem kV(c:Int)(w:D!):G! E? 220 #[A! c] w (T! w<|H?<|fO c):=by
 have H:E! (∀x:Int,x=c->fO x=fO c):=A? λx h=>by rw[h]
 exact mdl
theorem Eb(e:Bool)(a b:Int)(w:D!):G! E? 271 #[H? e,A! a,A! b] w (T! w<|H?<|sN e a b):=by
 let⟨x,t⟩:=F?<|a==5;let⟨y,o⟩:=F?<|b==5
 have H:E! (sN e a b=if x !=y then y else e):=A? (by
  unfold sN;rw[show K? (a=5)=x from by rw[<-t];rfl,show K? (b=5)=y from by rw[<-o];rfl])
 cases x<;>cases y<;>
  (go_in
   go_wp2
   go_ret;exact⟨by rw[H.out];rfl,rfl⟩)
def bP(x:Int):Bool:=K? (1<=x)&&K? (x<=4294967295)
theorem Gm(c:Int)(w:D!):G! E? 83 #[A! c] w (T! w<|H?<|bP c):=by
 by_cases h:1<=c
 .have HC:E!<|bP c=K? (c<=4294967295):=A? (by unfold bP;simp[h]);exact bak
 .have HC:E!<|bP c=false:=A? (by unfold bP;simp[h]);exact bak
theorem Lt(a b:Int)(w:D!)(i:bP a=C?)(n:bP b=C?)(s:a≠b):G! E? 70 #[A! a,A! b] w (T! w (.tuple #[H?<|K? (a<b),A! 0])):=by
 have t:=λw=>Gm a w;have o:=λw=>Gm b w;rw[i]at t;rw[n]at o;go_in;go_wp2_with fail;apply(t _).mono;rintro e r ⟨rfl,rfl⟩;go_wp2_with fail;refine d! (o _) ?_;exact ma6
theorem ru(s:Bool)(w:D!):G! E? 85 #[H? s] w (T! w<|A!<|gh s):=by
 cases s
 .go_wp2
  go_ret;exact⟨rfl,rfl⟩
 .go_wp2
  go_ret;exact⟨rfl,rfl⟩
theorem wM(c:Int)(w:D!):G! E? 194 #[A! c] w (T! w<|H?<|fR c):=by
 have H:E! (∀x:Int,x=c->fR x=fR c):=A? λx h=>by rw[h]
 exact mdl
theorem Gn(c:Int)(w:D!):G! E? 253 #[A! c] w (T! w<|H?<|dw c):=by
 exact ncC
theorem qy(c i:Int)(w:D!):G! E? 201 #[.agg #[A! c,A! i]] w (S? w<|H?<|fS c):=by
 have e:E!<|fS c=K? (c.tmod 2=0):=A? (by unfold fS;exact decide_eq_decide.2<|(Int.dvd_iff_emod_eq_zero ..).symm.trans<|Int.dvd_iff_tmod_eq_zero ..);go_wp2;go_ret;exact⟨by rw[e.out];rfl,by first|exact P! _ _|exact R!⟩
theorem sZ(c i:Int)(w:D!):G! E? 202 #[.agg #[A! c,A! i]] w (S? w<|H?<|eV c i):=by
 have e:E!<|eV c i=(decide (1<=c)&&(decide (c<=8)&&(decide (0<=i)&&K? (i<=255)))):=A? (by unfold eV dw;simp[Bool.and_assoc]);go_in;go_wp2_with fail
 all_goals
  go_ret;exact⟨by rw[e.out];simp_all<;>omega,by first|exact P! _ _|exact R!⟩
theorem zO(c:Int)(w:D!):G! E? 91 #[A! c] w (T! w<|H?<|nM c):=by
 have H:E! (∀x:Int,x=c->nM x=nM c):=A? λx h=>by rw[h]
 exact mdl
structure gH(j:aT):Prop where
 n0:0<=j.next
 n1:j.next<cG j
 nd:(j.held.map (·.1)).Nodup
 ks:∀x∈j.held,0<=x.1/\x.1<cG j
 ln:(j.links.map (·.1)).Nodup
 ls:∀x∈j.links,x.2<cG j
 m0:0<=j.most
theorem eF(j:aT):4096<=cG j/\cG j<=16777216/\cG j%2=0:=by unfold cG gh;split<;>omega
theorem lj(j:aT)(s:Int):0<=gN j s/\gN j s<cG j:=by
 have:=eF j;unfold gN;exact⟨bb1 _ B!,maI _ B!⟩
theorem sA(j:aT)(o:Int):0<=qM j o/\qM j o<cG j:=by
 have:=eF j;unfold qM;exact⟨bb1 _ B!,maI _ B!⟩
theorem Uz(j:aT)(o:Int)(e:0<=o)(t:o<cG j):gN j (qM j o)=o:=by
 unfold gN qM;rw[Int.emod_sub_emod,show j.next+o-j.next=o from B!,bbu e t]
theorem acM{j:aT}{s:Int}(e:0<=s)(t:s<cG j):qM j (gN j s)=s:=by
 unfold gN qM;rw[Int.add_emod_emod,show j.next+(s-j.next)=s from B!,bbu e t]
theorem Zx{j:aT}(h:gH j):qM j 0=j.next:=by unfold qM;rw[Int.add_zero,bbu h.n0 h.n1]
theorem Wf(j:aT):gN j j.next=0:=by unfold gN;simp
theorem gH.let{j:aT}(h:gH j)(o:Int):gH<|Af j o:=
 ⟨(sA j o).1,(sA j o).2,h.nd.sublist<|List.filter_sublist.map _,λx e=>h.ks x (List.mem_filter.1 e).1,h.ln,h.ls,h.m0⟩
theorem yV{t:Type}{p:t->Bool}:∀{l:List t} {x:t},x∈l->p x=H!->(l.filter p).length<l.length
 |y::l,x,e,o=>by
  have i:=ϝ p l;rw[k?];rcases n!.1 e with rfl|e
  .rw[F!<|by rw[o];decide,V!];omega
  .have:=yV e o;split
   .rw[V!,V!];omega
   .rw[V!];omega
theorem zQ{j:aT}{o:Int}{x:Int×bF}(e:x∈j.held)(h:gN j x.1<o):(Af j o).held.length<j.held.length:=
 yV e (by simp[h])
theorem yX(j:aT):(j.held=[]/\ji j=cG j)\/∃x∈j.held,gN j x.1=ji j/\∀y∈j.held,ji j<=gN j y.1:=by
 unfold ji
 have n:∀(l:KV bF) (a:Int),(∃x∈l,gN j x.1=l.foldl (λm x=>min m<|gN j x.1) a)\/l.foldl (λm x=>min m<|gN j x.1) a=a:=by
  intro l
  induction l with
  |nil=>intro a;exact .inr rfl
  |cons x l i=>
   intro a;rw[r!];rcases i (min a<|gN j x.1)with⟨y,t,e⟩|e
   .exact .inl ⟨y,τ _ t,e⟩
   .rw[e];by_cases d:a<=gN j x.1
    .exact .inr B!
    .exact .inl ⟨x,x!,B!⟩
 have s:∀(l:KV bF) (a:Int),l.foldl (λm x=>min m<|gN j x.1) a<=a/\∀y∈l,l.foldl (λm x=>min m<|gN j x.1) a<=gN j y.1:=by
  intro l
  induction l with
  |nil=>intro a;exact⟨Y! _,λy t=>by cases t⟩
  |cons x l i=>
   intro a;rw[r!];let⟨r,o⟩:=i<|min a<|gN j x.1;refine⟨B!,λy t=>?_⟩;rcases n!.1 t with rfl|t
   .omega
   .exact o y t
 cases c:j.held with
 |nil=>exact .inl ⟨rfl,rfl⟩
 |cons x l=>
  right
  have o:=(s (x::l)<|cG j).2;rcases n (x::l) (cG j)with⟨y,t,e⟩|e
  .exact⟨y,t,e,o⟩
  .exfalso;have:=o x x!;have:=(lj j x.1).2;omega
theorem rz(j:aT):∀(n i:Nat) (e:List UInt8),(i:Int)<=(gK j n i e).2.1/\(gK j n i e).2.1<=i+n
 |0,i,e=>⟨Y! _,by show(i:Int)<=_;omega⟩
 |n+1,i,e=>by
  unfold gK;split
  .exact⟨Y! _,bap⟩
  .split
   .exact⟨Y! _,bap⟩
   .split
    .exact⟨bap,bap⟩
    .have h:=rz j n (i+1) (e++(by assumption:bF).d.data.toList);omega
theorem Ol{j:aT}{f:bF}(h:bt j.held (qM j 0)=C! f)(n:Nat)(e:List UInt8):1<=(gK j (n+1) 0 e).2.1:=by
 unfold gK;rw[show((0:Nat):Int)=0 from rfl,h];simp only[mdw,false_and,q?];split
 .dsimp only;omega
 .have:=(rz j n (0+1)<|e++f.d.data.toList).1;omega
theorem oG(j:aT):∀n,(nB j n).Sublist j.held
 |0=>mds _
 |n+1=>(List.filter_sublist).trans<|oG j n
theorem Wg{o:Type}{m:KV o}{k:Int}(h:au m k=C?):(dB m k).length<m.length:=by
 let⟨x,t,e⟩:=ϋ.1 h;exact yV t (by rw[e];rfl)
theorem Ec{j:aT}(h:au j.held (qM j 0)=C?):∀n,(nB j<|n+1).length<j.held.length
 |0=>Wg h
 |n+1=>by
  have:=Ec h n;have e:(nB j<|n+1+1).length<=(nB j<|n+1).length:=ϝ _ _;omega
def Gq(j:aT):Nat:=2*j.held.length+(if au j.held j.next=C? then 0 else if 0<=fV j then 1 else 0)
theorem Bj{j:aT}(h:0<=fV j):(∃x∈j.links,gN j x.2=fV j)/\fV j<cG j/2/\j.links≠[]/\j.links.any (λx=>K? (x.2<0))=false:=by
 unfold fV at h|-;split at h
 .omega
 .rename_i i;rw[F! i];have v:=eF j
  have f:∀(l:KV Int) (a:Int),(∃x∈l,eM j x.2=l.foldl (λm x=>min m<|eM j x.2) a)\/l.foldl (λm x=>min m<|eM j x.2) a=a:=by
   intro l
   induction l with
   |nil=>intro a;exact .inr rfl
   |cons x l o=>
    intro a;rw[r!];rcases o (min a<|eM j x.2)with⟨y,t,e⟩|e
    .exact .inl ⟨y,τ _ t,e⟩
    .rw[e];by_cases b:a<=eM j x.2
     .exact .inr B!
     .exact .inl ⟨x,x!,B!⟩
  have g:∀(l:KV Int) (a:Int),∀y∈l,l.foldl (λm x=>min m<|eM j x.2) a<=eM j y.2:=by
   intro l
   have w:∀(l:KV Int) (a:Int),l.foldl (λm x=>min m<|eM j x.2) a<=a:=by
    intro l
    induction l with
    |nil=>intro a;exact Y! _
    |cons x l o=>intro a;rw[r!];have:=o<|min a<|eM j x.2;omega
   induction l with
   |nil=>intro a y t;cases t
   |cons x l o=>
    intro a y t;rw[r!];rcases n!.1 t with rfl|t
    .have:=w l<|min a<|eM j y.2;omega
    .exact o _ y t
  have n:∀s,eM j s<cG j/2/\(0<=eM j s->gN j s=eM j s):=by
   intro s;have:=lj j s;unfold eM;split<;>omega
  have d:j.links≠[]:=λe=>i (.inl e)
  have c:j.links.any (λx=>K? (x.2<0))=false:=by
   cases u:j.links.any (λx=>K? (x.2<0))with
   |false=>rfl
   |true=>exact absurd (.inr u) i
  rcases f j.links (cG j)with⟨x,r,e⟩|e
  .rw[<-e]at h|-;exact⟨⟨x,r,(n x.2).2 h⟩,(n x.2).1,d,c⟩
  .exfalso;let⟨x,r⟩:=List.exists_mem_of_ne_nil _ d;have:=g j.links (cG j) x r;have:=(n x.2).1;omega
theorem Om{j:aT}(h:0<=fV j):fV {j with next:=qM j (fV j+1)}<0:=by
 let⟨⟨x,f,u⟩,v,c,d⟩:=Bj h;have q:=eF j;generalize k:fV j=m at*
 unfold fV;rw[F!<|by rintro(e|e);exact c e;rw[d]at e;cases e]
 have w:∀(l:KV Int) (a:Int) (g:Int->Int),∀y∈l,l.foldl (λm x=>min m<|g x.2) a<=g y.2:=by
  intro l a g
  have b:∀(l:KV Int) (a:Int),l.foldl (λm x=>min m<|g x.2) a<=a:=by
   intro l
   induction l with
   |nil=>intro a;exact Y! _
   |cons x l o=>intro a;rw[r!];have:=o<|min a<|g x.2;omega
  revert a
  induction l with
  |nil=>intro a y t;cases t
  |cons x l o=>
   intro a y t;rw[r!];rcases n!.1 t with rfl|t
   .have:=b l<|min a<|g y.2;omega
   .exact o _ y t
 have i:=w j.links (cG {j with next:=qM j (m+1)}) (eM {j with next:=qM j (m+1)}) x f
 have s:gN {j with next:=qM j (m+1)} x.2=cG j-1:=by
  show(x.2-qM j (m+1))%cG j=cG j-1;have e:(x.2-j.next)%cG j=m:=u
  have n:(x.2-qM j (m+1))%cG j=((x.2-j.next)%cG j-(m+1))%cG j:=by
   unfold qM;rw[Int.sub_emod_emod,Int.emod_sub_emod,show x.2-(j.next+(m+1))=x.2-j.next-(m+1) from B!]
  rw[n,e,show m-(m+1)= -1 from B!];have:(-1:Int)%cG j=(-1+cG j)%cG j:=N!;rw[this,bbu B! B!];omega
 have r:eM {j with next:=qM j (m+1)} x.2= -1:=by
  unfold eM;rw[s];show(if cG j/2<=cG j-1 then cG j-1-cG j else cG j-1)= -1;rw[G? B!];omega
 rw[r]at i;exact Int.lt_of_le_of_lt i B!
theorem Gs{j:aT}{f:bF}{m:Int}(h:gH j)(r:bt j.held j.next=C! f)(u:m<cG j)(e:(fU j f m).2.2=C?):gH (fU j f m).1/\(fU j f m).1.held.length<j.held.length:=by
 have o:=(eA h.nd).1 r;have i:=Wf j;have l:bt j.held (qM j 0)=C! f:=by rw[Zx h];exact r
 have d:au j.held (qM j 0)=true:=by rw[fK,l];rfl
 have g:=Ol l j.held.length [];unfold fU at e|-;split at e
 .rename_i n;rw[G? n];exact⟨h.let 1,zQ o<|by rw[i];omega⟩
 .rename_i n;rw[F! n];dsimp only at e|-;split at e
  .rename_i s;rw[G? s];refine⟨⟨(sA j _).1,(sA j _).2,h.nd.sublist<|(oG j _).map _,λx o=>h.ks x<|(oG j _).subset o,h.ln,h.ls,h.m0⟩,?_⟩;obtain⟨k,t⟩:∃k,(gK j (j.held.length+1) 0 []).2.1.toNat=k+1:=⟨(gK j (j.held.length+1) 0 []).2.1.toNat-1,B!⟩;show(nB j _).length<_;rw[t];exact Ec d k
  .rename_i s;rw[F! s];split at e
   .rename_i t;rw[G? t];exact⟨h.let _,zQ o<|by rw[i];omega⟩
   .rename_i t;rw[F! t];split at e
    .rename_i c;rw[G? c];exact⟨h.let _,zQ o<|by rw[i];omega⟩
    .cases e
theorem JL{j:aT}(h:gH j)(t:(mA j).2.2=C?):gH (mA j).1/\(mA j).1.held.length<j.held.length:=by
 unfold mA at t|-;split at t
 .cases t
 .rename_i o;rw[F! o];refine⟨h.let _,?_⟩;rcases yX j with⟨e,_⟩|⟨x,i,e,_⟩
  .exfalso;have:=h.m0;rw[e]at o;simp at o;omega
  .exact zQ i (by rw[e];omega)
theorem Lw(j:aT):Gq j<=2*j.held.length+1:=by unfold Gq;split;omega;split<;>omega
theorem Gt(j:aT):fV j<cG j:=by
 have e:=eF j;by_cases h:0<=fV j
 .have:=(Bj h).2.1;omega
 .omega
theorem Dv{j:aT}(h:gH j)(o:(fA j).2.2=C?):gH (fA j).1/\Gq (fA j).1<Gq j:=by
 unfold fA at o|-;cases i:bt j.held j.next with
 |some f=>
  rw[i]at o;dsimp only at o|-
  have r:∀n:aT,n.held.length<j.held.length->Gq n<Gq j:=by
   intro n u;have:=Lw n;have:2*j.held.length<=Gq j:=by unfold Gq;omega
   omega
  by_cases t:(fU j f<|fV j).2.2=C?
  .rw[G? t];have:=Gs h i (Gt j) t;exact⟨this.1,r _ this.2⟩
  .rw[F! t]at o|-;have:=JL h o;exact⟨this.1,r _ this.2⟩
 |none=>
  rw[i]at o;dsimp only at o|-;have c:au j.held j.next=false:=by rw[fK,i];rfl
  by_cases t:0<=fV j
  .rw[G? t];refine⟨⟨(sA j _).1,(sA j _).2,h.nd,h.ks,h.ln,h.ls,h.m0⟩,?_⟩;have l:Gq j=2*j.held.length+1:=by unfold Gq;rw[F!<|by rw[c];decide,G? t]
   rw[l];unfold Gq;show 2*j.held.length+_<_;by_cases u:fV j+1<=ji j
   .rw[show min (fV j+1) (ji j)=fV j+1 from B!];have d:=Om t;split
    .omega
    .rw[F!<|Int.not_le.2 d];omega
   .rw[show min (fV j+1) (ji j)=ji j from B!];rcases yX j with⟨e,m⟩|⟨x,s,e,_⟩
    .have:=(Bj t).2.1;have:=eF j;omega
    .rw[G?]
     .omega
     .show au j.held (qM j<|ji j)=C?;rw[<-e,acM (h.ks x s).1 (h.ks x s).2];exact dI.2<|a!.2 ⟨x,s,rfl⟩
  .rw[F! t]at o|-;have:=JL h o;refine⟨this.1,?_⟩;have g:=Lw (mA j).1;have:2*j.held.length<=Gq j:=by unfold Gq;omega
   omega
theorem LQ{w w1:D!}{n:Nat}(h:K! w w1):K! w<|w1.drewN n:=⟨h.os,h.tape,h.output,h.size,h.block⟩
theorem ZP(f:bF)(s:Bool)(w:D!)(h:f.seq<0):G! E? 178 #[.agg (dc f).toArray,H? s] w (S? w (.tuple #[D?<|bytesOf (eU f s).1,A! (eU f s).2])):=by
 have HM:E!<|eU f s=([],801):=A? (by unfold eU;rw[G? (.inl h)]);unfold dc;have e:=b! h;go_wp2;go_region;go_wp2;go_ret2;exact⟨ba3,by first|exact P! _ _|exact ak U? _|exact(aQ R!)⟩
theorem ZQ(f:bF)(s:Bool)(w:D!)(h:¬f.seq<0)(e:gh s<=f.seq):G! E? 178 #[.agg (dc f).toArray,H? s] w (S? w (.tuple #[D?<|bytesOf (eU f s).1,A! (eU f s).2])):=by
 have HM:E!<|eU f s=([],801):=A? (by unfold eU;rw[G? (.inr (.inl e))]);have hr:=λw=>ru s w;unfold dc;generalize gh s=R at hr e;have t:=W? h;have o:=b! e;exact nbk
theorem Wy(f:bF)(s:Bool)(w:D!)(h:¬f.seq<0)(e:¬gh s<=f.seq)(t:2048<f.d.size):G! E? 178 #[.agg (dc f).toArray,H? s] w (S? w (.tuple #[D?<|bytesOf (eU f s).1,A! (eU f s).2])):=by
 have HM:E!<|eU f s=([],801):=A? (by unfold eU;rw[G? (.inr (.inr t))]);have hr:=λw=>ru s w;unfold dc;generalize gh s=R at hr e;have o:=W? h;have i:=W? e;have n:K? ((2048:Int)<f.d.size)=true:=b! B!;exact nbk
theorem m8(e:List Int)(d:ByteArray):strOfNums e++d=bytesOf (e.map (λn=>UInt8.ofNat n.toNat)++d.data.toList):=by
 rw[rH];exact l7 _ d.data.toList
theorem cZ(x:Int)(e:0<=x)(t:x<256):UInt8.ofNat x.toNat=aE x:=by unfold aE;rw[bbu e t]
theorem ZR(F:Int)(t:F=0\/F=64\/F=128\/F=192)(x:Int)(e:0<=x)(i:x<16):bits BinOp.or IntKind.i64 F x%256=F+x:=by
 obtain⟨n,rfl⟩:=Int.eq_ofNat_of_zero_le e;have o:n<16:=B!;have h:∀n<16,bits BinOp.or IntKind.i64 0 ((n:Nat):Int)%256=0+(n:Int)/\bits BinOp.or IntKind.i64 64 ((n:Nat):Int)%256=64+(n:Int)/\bits BinOp.or IntKind.i64 128 ((n:Nat):Int)%256=128+(n:Int)/\bits BinOp.or IntKind.i64 192 ((n:Nat):Int)%256=192+(n:Int):=baS;let⟨a,b,c,d⟩:=h n o;rcases t with rfl|rfl|rfl|rfl<;>assumption
section
variable(F seq:Int)(d:ByteArray)(hF:F=0\/F=64\/F=128\/F=192)(h0:0<=seq)
include F seq d hF h0
theorem ae9(e:seq<4096):bytesOf ([aE<|F+seq/256,aE seq]++d.data.toList)=strOfNums [bits BinOp.or IntKind.i64 F (seq/256)%256,seq%256]++d:=by
 rw[m8,ZR F hF _ B! B!];simp only[i?,y!];rw[cZ (F+seq/256) B! B!,show UInt8.ofNat (seq%256).toNat=aE seq from rfl]
theorem afa(e:seq<16777216):bytesOf ([aE F,aE<|seq/65536,aE<|seq/256,aE seq]++d.data.toList)=strOfNums [F,seq/65536,seq/256%256,seq%256]++d:=by
 rw[m8];simp only[i?,y!];rw[cZ F B! B!,cZ (seq/65536) B! B!];rfl
end
theorem RV(f:bF)(w:D!)(h:¬f.seq<0)(h2:¬4096<=f.seq)(h3:¬2048<f.d.size):G! E? 178 #[.agg (dc f).toArray,H? C?] w (S? w (.tuple #[D?<|bytesOf (eU f C?).1,A! (eU f C?).2])):=by
 have i:E!<|eU f C?=([aE<|firstM f+f.seq/256,aE f.seq]++f.d.data.toList,0):=A? (by unfold eU;rw[F! ncb,G? rfl]);have l:∀w,G! E? 85 #[H? C?] w (T! w<|A! 4096):=λw=>ru C? w;obtain⟨n,s,t,d⟩:=f;unfold dc;dsimp only at*
 have o:=A? λF r=>ae9 F t d r B! B!;have u:=W? h;have m:=W? h2;have g:K? ((2048:Int)<d.size)=false:=W? B!;have c:=age;have y:∀a b:Int,(strOfNums [a,b]).size=2:=λa b=>ν _
 cases n<;>cases s<;>
  (go_in
   go_wp2_with fail;go_quiet(first|(go_at_call 85;refine bbs<|l _));go_wp2;go_ret2;refine⟨?_,nb4⟩;rw[i.out]
   first
    |(show _=Ending.returned (.tuple #[.string<|bytesOf<|[aE<|0+t/256,aE t]++d.data.toList,.int .i64 0]);rw[o 0 I!];rfl)
    |(show _=Ending.returned (.tuple #[.string<|bytesOf<|[aE<|64+t/256,aE t]++d.data.toList,.int .i64 0]);rw[o 64 I!];rfl)
    |(show _=Ending.returned (.tuple #[.string<|bytesOf<|[aE<|128+t/256,aE t]++d.data.toList,.int .i64 0]);rw[o 128 I!];rfl)
    |(show _=Ending.returned (.tuple #[.string (bytesOf ([aE (192+t/256),aE t]++d.data.toList)),.int .i64 0]);rw[o 192 I!];rfl))
theorem Wz(f:bF)(w:D!)(h:¬f.seq<0)(h2:¬16777216<=f.seq)(h3:¬2048<f.d.size):G! E? 178 #[.agg (dc f).toArray,H? H!] w (S? w (.tuple #[D?<|bytesOf (eU f H!).1,A! (eU f H!).2])):=by
 have i:E!<|eU f H!=([aE<|firstM f,aE<|f.seq/65536,aE<|f.seq/256,aE f.seq]++f.d.data.toList,0):=A? (by unfold eU;rw[F! ncb,F! I!]);have l:∀w,G! E? 85 #[H? H!] w (T! w<|A! 16777216):=λw=>ru H! w;obtain⟨n,s,t,d⟩:=f;unfold dc;dsimp only at*
 have o:=A? λF r=>afa F t d r B! B!;have m:=W? h;have g:=W? h2;have y:K? ((2048:Int)<d.size)=false:=W? B!;have u:=Nr;have v:∀a b c d:Int,(strOfNums [a,b,c,d]).size=4:=λa b c d=>ν _
 cases n<;>cases s<;>
  (go_in
   go_wp2_with fail;go_quiet(first|(go_at_call 85;refine bbs<|l _));go_wp2;go_ret2;refine⟨?_,nb4⟩;rw[i.out]
   first
    |(show _=Ending.returned (.tuple #[.string<|bytesOf<|[aE 0,aE<|t/65536,aE<|t/256,aE t]++d.data.toList,.int .i64 0]);rw[o 0 I!];rfl)
    |(show _=Ending.returned (.tuple #[.string<|bytesOf<|[aE 64,aE<|t/65536,aE<|t/256,aE t]++d.data.toList,.int .i64 0]);rw[o 64 I!];rfl)
    |(show _=Ending.returned (.tuple #[.string<|bytesOf<|[aE 128,aE<|t/65536,aE<|t/256,aE t]++d.data.toList,.int .i64 0]);rw[o 128 I!];rfl)
    |(show _=Ending.returned (.tuple #[.string (bytesOf ([aE 192,aE (t/65536),aE (t/256),aE t]++d.data.toList)),.int .i64 0]);rw[o 192 I!];rfl))
theorem OG(f:bF)(s:Bool)(w:D!):G! E? 178 #[.agg (dc f).toArray,H? s] w (S? w (.tuple #[D?<|bytesOf (eU f s).1,A! (eU f s).2])):=by
 by_cases h:f.seq<0
 .exact ZP f s w h
 by_cases e:gh s<=f.seq
 .exact ZQ f s w h e
 by_cases t:2048<f.d.size
 .exact Wy f s w h e t
 cases s
 .exact Wz f w h e t
 .exact RV f w h e t
