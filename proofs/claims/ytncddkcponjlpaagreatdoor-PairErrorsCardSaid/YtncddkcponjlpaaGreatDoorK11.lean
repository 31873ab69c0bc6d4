/- Walks and plain laws. -/
import Derived.Test.YtncddkcponjlpaaGreatDoorK10
set_option linter.unusedVariables false
set_option linter.unusedSimpArgs false
set_option maxHeartbeats 0
set_option maxRecDepth 99999
namespace Go.Proofs.YtncddkcponjlpaaGreatDoor
open Go.RowKit Go.Proofs.Tryz
open Go renaming World→D!,Value→I?,Calls→G!,IntKind→ncy
open Go.RowKit renaming Hid→E!
open Decidable renaming decide→K?
open Option renaming some→C!,none→L?
open Bool renaming true→C?,false→H!
open Go.Proofs.Tryz renaming prog→E?
variable{P:Prop}
variable{N:Nat}{q:bh}{k:Int}
theorem wI{o:bD}(h:gS o=C?):(o.1=18\/o.1=19\/∃i,iV o.1=C! i)/\o.2.size<=20:=by
 unfold gS py at h;unfold iV;simp only[bae,k!,z?]at h;split at h
 .rename_i e;refine⟨.inr (.inr ?_),B!⟩;rcases e with e|e|e<;>rw[e]<;>simp
 .split at h
  .rename_i e;refine⟨.inr (.inr ?_),B!⟩;rw[e];simp
  .split at h
   .rename_i e;exact⟨.inl e,B!⟩
   .split at h
    .rename_i e;exact⟨.inr (.inl e),B!⟩
    .omega
theorem VH(p:Nat)(l:aZ)(o:bD)(w:D!)(h:dM w p l)(m:gS o=C?):
 G! E? 289 #[P? p,.agg #[A! o.1,D? o.2]] w λe w'=>e=.returned (.tuple #[])/\dM w' p (pz l o)/\Only (· =p) w w':=by
 let⟨s,y⟩:=wI m;have hset:=λw h=>Ur p l o w h s B!;obtain⟨k,d⟩:=o;simp only at s y hset|-;have hval:=λw=>oP d w B!;let⟨v,r⟩:=F?<|cF d.data.toList;have hu:=λw=>zJ v w;have n:E!<|pz l (k,d)=if((k=1\/k=17)/\gZ v=H!)\/(k=5/\v=0)then l else tM l (k,d):=A? (by unfold pz;rw[r])
 rw[r]at hval;have u:=(P! w.heap.size w).alloc O? (.cells #[A! k,D? d] 203);have hS:=h.below u;have hO:Only (· =p) w<|w.alloc (.cells #[A! k,D? d] 203):=(Only.refl _ _).alloc _;by_cases t:((k=1\/k=17)/\gZ v=H!)\/(k=5/\v=0)
 .have HL2:E!<|pz l (k,d)=l:=A? (by rw[n.out,G? t]);rcases t with⟨rfl|rfl,g⟩|⟨rfl,rfl⟩
  all_goals
   go_in
   go_wp2_with(first|(go_at_call 302;apply(hval _).mono;rintro e w' ⟨rfl,rfl⟩)|(go_at_call 259;apply(hu _).mono;rintro e w' ⟨rfl,rfl⟩));go_end0;exact⟨rfl,by rw[HL2.out];exact hS,hO⟩
 .have HL2:E!<|pz l (k,d)=tM l (k,d):=A? (by rw[n.out,F! t]);by_cases i:k=1\/k=17
  .have g:gZ v=true:=by
    cases e:gZ v with
    |true=>rfl
    |false=>exact absurd (.inl ⟨i,e⟩) t
   rcases i with rfl|rfl
   all_goals
    exact nad
  .have j:=Q?.2 λe=>i (.inl e);have z:=Q?.2 λe=>i (.inr e);by_cases c:k=5
   .subst c;have b:=Q?.2 λe=>t (.inr ⟨rfl,e⟩);exact nad
   .have b:=Q?.2 c;go_in;go_wp2_with(first|(go_at_call 302;apply(hval _).mono;rintro e w' ⟨rfl,rfl⟩)|(go_at_call 259;refine d! (hu _) ?_));exact nbM
theorem Gb(w:D!)(e t o i:I?):(w.alloc (.cells #[e,t,o,i] 220)).cell? (B? w.heap.size 0)=C! e/\(w.alloc (.cells #[e,t,o,i] 220)).cell? (B? w.heap.size 1)=C! t/\(w.alloc (.cells #[e,t,o,i] 220)).cell? (B? w.heap.size 2)=C! o/\(w.alloc (.cells #[e,t,o,i] 220)).cell? (B? w.heap.size 3)=C! i:=by
 refine⟨?_,?_,?_,?_⟩<;>(rw[j!];rfl)
theorem VT(p:Nat)(d:I?)(e:Int)(w:D!)(h:e≠7/\e≠10/\e≠8/\e≠9/\e≠11/\e≠12/\e≠13):
 G! E? 210 #[P? p,A! e,d] w (S? w (.tuple #[.agg xac,H? H!])):=by
 obtain⟨s,t,r,l,o,i,n⟩:=h;have g:=Q?.2 s;have c:=Q?.2 t;have y:=Q?.2 r;have b:=Q?.2 l;have u:=Q?.2 o;have m:=Q?.2 i;have f:=Q?.2 n;go_in;go_wp2_with fail;let⟨k0,k1,k2,k3⟩:=Gb w (A! 0) (A! 0) Q!<|D? ⟨#[]⟩;refine V? (v:=.tuple #[.agg xac,H? H!]) baK rfl ⟨rfl,R!⟩
structure kU(s:cu):Prop where
 st:0<=s.state/\s.state<=9
 left:0<=s.left/\s.left<=10
 tries:1<=s.tries/\s.tries<=10
 id:0<=s.id/\s.id<=255
 may:jL s.own=C?
theorem JI{s:cu}(h:kU s)(n:Int):kU<|kD s n:=by
 obtain⟨e,r,t,o,i⟩:=h;unfold kD;split
 .exact⟨e,⟨bap,bap⟩,t,o,i⟩
 .split
  .exact⟨e,⟨bap,bap⟩,t,o,i⟩
  .exact⟨e,r,t,o,i⟩
theorem V1{s:cu}(h:kU s)(c:Int)(r:cL):kU (nk s c r).1:=by
 obtain⟨e,i,t,n,o⟩:=h;have l:0<=(s.id+1)%256/\(s.id+1)%256<=255:=B!;have d:0<=max 0 (s.left-1)/\max 0 (s.left-1)<=10:=B!;unfold nk;split
 .exact⟨e,d,t,l,o⟩
 split
 .exact⟨e,d,t,l,o⟩
 split
 .exact⟨e,i,t,n,o⟩
 split
 .exact⟨e,i,t,n,o⟩
 split
 .exact⟨e,i,t,n,o⟩
 split
 .exact⟨e,i,t,l,o⟩
 split<;>exact⟨e,i,t,n,o⟩
theorem JJ{s:cu}(h:kU s)(r:cL)(e:List Int)(t:List bg):kU (e.foldl (FH r) (s,t)).1:=by
 induction e generalizing s t with
 |nil=>exact h
 |cons a l o=>
  rw[r!];exact o (V1 (JI h a) a r) _
theorem Rp:(List.range 16).all (λv=>(List.range 10).all λs=>K? ((bN s v).2.2≠0)||(decide (0<=(bN s v).1)&&K? ((bN s v).1<=9)))=true:=baS
theorem V2:(List.range 16).all (λv=>(List.range 10).all λs=>K? ((bN s v).2.1.length<=16))=true:=baS
section
variable{s v:Int}(h:(bN s v).2.2=0)
include h
theorem Ge:∃a b:Nat,s=a/\v=b/\a<10/\b<16:=by
 unfold bN at h;split at h
 .cases h
 .exact⟨s.toNat,v.toNat,B!,B!,B!,B!⟩
theorem Gf:0<=(bN s v).1/\(bN s v).1<=9:=by
 obtain⟨a,b,rfl,rfl,e,t⟩:=Ge h;have:=List.all_eq_true.1 (List.all_eq_true.1 Rp b<|List.mem_range.2 t) a<|List.mem_range.2 e;simp only[bae,k!,z?]at this;omega
theorem Zn:(bN s v).2.1.length<=16:=by
 obtain⟨a,b,rfl,rfl,e,t⟩:=Ge h;simpa using List.all_eq_true.1 (List.all_eq_true.1 V2 b<|List.mem_range.2 t) a (List.mem_range.2 e)
end
theorem yQ{s:cu}(h:kU s)(e:Int)(r:cL):kU (qj s e r).1:=by
 unfold qj;split
 .exact h
 .rename_i o;have t:=Gf (s:=s.state) (v:=e) B!;exact JJ (s:={s with state:=(bN s.state e).1}) ⟨t,h.left,h.tries,h.id,h.may⟩ _ _ _
theorem Rq(l:List UInt8)(h:l.length=2):0<=cF l/\cF l<=65535:=by
 match l,h with
 |[a,b],_=>
  have e:=a.toNat_lt;have t:=b.toNat_lt;unfold cF;simp only[r!,mdc];rw[show(0:Int)=((0:Nat):Int)from rfl,eX _ _ I!,eX _ _ B!];omega
theorem N6(l:List UInt8)(h:l.length=4):0<=cF l/\cF l<=4294967295:=by
 match l,h with
 |[a,b,c,d],_=>
  have e:=a.toNat_lt;have t:=b.toNat_lt;have o:=c.toNat_lt;have i:=d.toNat_lt;unfold cF;simp only[r!,mdc];rw[show(0:Int)=((0:Nat):Int)from rfl,eX _ _ I!,eX _ _ B!,eX _ _ B!,eX _ _ B!];omega
theorem V3{l:aZ}(h:Bh l)(k:Int):Bh<|uw l k:=by
 obtain⟨e,t,o,i,n,s,r⟩:=h;unfold uw QJ;split
 .exact⟨e,t,o,i,n,s,r⟩
 split
 .exact⟨e,t,o,i,S! 20,s,r⟩
 split
 .exact⟨.inl rfl,t,o,i,n,s,r⟩
 split
 .exact⟨e,t,Y! 0,(by decide:(0:Int)<=4294967295),n,s,r⟩
 split
 .exact⟨e,.inl rfl,o,i,n,s,r⟩
 .exact⟨e,t,o,i,n,Y! 0,(by decide:(0:Int)<=65535)⟩
theorem Rs{o:bD}(h:gS o=C?):(o.1=1\/o.1=17\/o.1=23->o.2.data.toList.length=2)/\(o.1=5->o.2.data.toList.length=4)/\(o.1=19->o.2.size<=20):=by
 have t:o.2.data.toList.length=o.2.size:=by rw[bch];rfl
 unfold gS py at h;simp only[bae,k!,z?]at h;rw[t];refine⟨?_,?_,?_⟩
 .rintro(e|e|e)<;>simp[e]at h<;>omega
 .intro e;simp[e]at h;omega
 .intro e;simp[e]at h;omega
theorem Lj{l:aZ}(h:Bh l){o:bD}(z:gS o=C?)(u:oJ l o.1=C?):Bh<|pz l o:=by
 obtain⟨t,i,n,s,r,d,c⟩:=h;let⟨A,O,E⟩:=Rs z;unfold pz;split
 .exact⟨t,i,n,s,r,d,c⟩
 .rename_i f;unfold tM;split
  .exact⟨t,i,n,s,r,d,c⟩
  split
  .exact⟨t,i,n,s,E baI,d,c⟩
  unfold QJ;split
  .rename_i e;refine⟨.inr ?_,i,n,s,r,d,c⟩
   have:gZ (cF o.2.data.toList)=true:=by
    cases m:gZ (cF o.2.data.toList)with
    |true=>rfl
    |false=>exact absurd (.inl ⟨.inl e,m⟩) f
   simpa[gZ]using this
  split
  .rename_i e;have:=N6 _<|O e;exact⟨t,i,this.1,this.2,r,d,c⟩
  split
  .rename_i e;refine⟨t,.inr ?_,n,s,r,d,c⟩
   have:gZ (cF o.2.data.toList)=true:=by
    cases m:gZ (cF o.2.data.toList)with
    |true=>rfl
    |false=>exact absurd (.inl ⟨.inr e,m⟩) f
   simpa[gZ]using this
  .rename_i y b g j w
   have v:o.1=23:=by
    unfold oJ rJ at u;rw[F! y,F! b,F! g,F! j,F! w]at u;split at u
    .rename_i h;split at h
     .assumption
     .cases h
    .cases u
   have:=Rq _<|A (.inr (.inr v));exact⟨t,i,n,s,r,this.1,this.2⟩
theorem V4{l:aZ}(h:jL l=C?)(t:Int)(s:t=3\/t=4)(i:List bD):jL (uy l t i).1=true:=by
 unfold uy;rw[F!<|by rw[h];simp;omega];apply aeY;replace h:=Rn h;dsimp only
 induction i generalizing l with
 |nil=>exact h
 |cons o i n=>
  rw[r!];apply n;unfold cJ;split
  .exact h
  .rename_i r;split
   .exact V3 h _
   .exact Lj h (by cases e:gS o<;>simp_all) (by cases e:oJ l o.1<;>simp_all)
theorem Bi{s:cu}(h:kU s)(p:bg):kU (kg s p).1:=by
 unfold kg;split
 .exact h
 split
 .exact h
 split
 .rename_i e;split
  .exact⟨h.st,h.left,h.tries,h.id,V4 h.may _ e _⟩
  .exact h
 .exact h
theorem RE:(List.range 16).all (λv=>(List.range 10).all λs=>K? ((pq<|BU v s).2.1.length<=8))=true:=baS
theorem I0(s v:Int):(bN s v).2.1.length<=8:=by
 unfold bN;split
 .exact S! _
 .rename_i h;exact bbN<|List.all_eq_true.1 (List.all_eq_true.1 RE v.toNat<|List.mem_range.2 B!) s.toNat<|List.mem_range.2 B!
def lG(l:List<|bF×Int)(n:Int):Nat:=(l.filter λx=>K? (x.2=n)).length
def nR(e:KV fk)(n:Int):Nat:=(e.map λx=>lG x.2.waits n).sum
theorem ZC(a b:List<|bF×Int)(n:Int):lG (a++b) n=lG a n+lG b n:=by unfold lG;rw[baR,X!]
theorem Dx(x:bF×Int)(l:List<|bF×Int)(n:Int):lG (x::l) n=(if x.2=n then 1 else 0)+lG l n:=by
 unfold lG;rw[k?];by_cases h:x.2=n
 .simp[h];omega
 .simp[h]
theorem zR(x:Int×fk)(e:KV fk)(n:Int):nR (x::e) n=lG x.2.waits n+nR e n:=by unfold nR;rw[i?,List.sum_cons]
theorem ZD(a b:KV fk)(n:Int):nR (a++b) n=nR a n+nR b n:=by unfold nR;rw[ϻ,List.sum_append]
theorem Ef{k:Int}(o:fk)(n:Int):∀{t:KV fk},(t.map (·.1)).Nodup->au t k=C?->nR (t.map λx=>if x.1==k then(k,o)else x) n+lG ((bt t k).getD jB).waits n=nR t n+lG o.waits n
 |[],_,h=>baV
 |x::t,i,h=>by
  rw[i?,θ]at i;rw[i?,zR,zR,iZ];by_cases e:x.1=k
  .rw[G? e];have c:∀y∈t,¬(y.1==k)=true:=λy s l=>i.1 (by rw[e,<-(κ.1 l)];exact a!.2 ⟨y,s,rfl⟩)
   rw[show t.map (λx=>if x.1==k then(k,o)else x)=t from by
    conv=>rhs;rw[<-mcw t]
    exact bbd λy s=>by rw[F! (c y s)];rfl]
   simp only[e,mbW,t!,ba5];omega
  .rw[F! e];have d:au t k=true:=by rw[zE]at h;simpa[e]using h
   have u:=Ef (k:=k) o n i.2 d;have r:(x.1==k)=false:=by simp[e]
   simp only[r,η,q?];omega
theorem y8{e:KV fk}{k:Int}(t:fk)(n:Int)(s:(e.map (·.1)).Nodup):nR (bI e k t) n+lG ((bt e k).getD jB).waits n=nR e n+lG t.waits n:=by
 by_cases h:au e k=C?
 .rw[mg h];exact Ef t n s h
 .have o:=z! _▸h;rw[mq o,ZD]
  have:bt e k=none:=by
   rw[fK]at o;cases i:bt e k with|none=>rfl|some _=>rw[i]at o;cases o
  rw[this];show nR e n+nR [(k,t)] n+lG [] n=_;rw[show nR [(k,t)] n=lG t.waits n from by unfold nR;simp];rfl
theorem Oq{k:Int}(n:Int):∀{t:KV fk},(t.map (·.1)).Nodup->au t k=C?->nR (dB t k) n+lG ((bt t k).getD jB).waits n=nR t n
 |[],_,h=>baV
 |x::t,o,h=>by
  rw[i?,θ]at o;rw[zR,iZ];unfold dB;rw[k?];by_cases e:x.1=k
  .rw[G? e,F!<|by simp[e]]
   have r:∀y∈t,(!(y.1==k))=true:=λy l=>by
    rw[bbv,Q?];intro i;exact o.1 (by rw[e,<-i];exact a!.2 ⟨y,l,rfl⟩)
   rw[List.filter_eq_self.2 r,ba5];omega
  .rw[F! e,G?<|by simp[e],zR];have s:au t k=true:=by rw[zE]at h;simpa[e]using h
   have d:=Oq (k:=k) n o.2 s;unfold dB at d;omega
structure iq(N:Nat)(q:bh):Prop where
 g:ia q
 l8:q.lanes.length<=8
 c0:0<=q.cut
 ck:q.cut+q.bB.length<=N
 key:∀k v,(k,v)∈q.opn->0<=k/\k<q.cut/\1<=v/\v<=64
 cnt:∀n,((nR q.lanes n:Nat):Int)=(bt q.opn n).getD 0
 w:∀k l,(k,l)∈q.lanes->(l.waits.length:Int)<=64*q.cut
theorem Gx{e:KV Int}{c:Int}(t:(e.map (·.1)).Nodup)(h:∀k v,(k,v)∈e->0<=k/\k<c):(e.length:Int)<=max c 0:=by
 have o:∀x∈e.map (·.1),x∈(List.range c.toNat).map λ(i:Nat)=>(i:Int):=by
  intro x n;obtain⟨⟨a,v⟩,s,rfl⟩:=a!.1 n;have:=h a v s;exact a!.2 ⟨a.toNat,List.mem_range.2 B!,by simp only;omega⟩
 have:=JN t o;rw[g!,g!,List.length_range]at this;omega
where
 JN {l1:List Int}:∀{l2:List Int},l1.Nodup->(∀x∈l1,x∈l2)->l1.length<=l2.length:=by
  induction l1 with
  |nil=>intros;exact S! _
  |cons a l1 ih=>
   intro l2 hn hs;rw[θ]at hn;have ha:=hs a<|x! ..
   have h1:=ih (l2:=l2.erase a) hn.2 λx hx=>by
    have hne:x≠a:=λe=>hn.1 mdC;exact(List.mem_erase_of_ne hne).2<|hs x<|τ _ hx
   rw[List.length_erase_of_mem ha]at h1;have:=List.length_pos_of_mem ha;exact baN
theorem iq.acP(h:iq N q):(q.opn.length:Int)<=q.cut:=by
 have:=Gx (c:=q.cut) h.g.on λk v e=>⟨(h.key k v e).1,(h.key k v e).2.1⟩;have:=h.c0;omega
theorem iq.acQ(h:iq N q)(n:Int):0<=(bt q.opn n).getD 0/\(bt q.opn n).getD 0<=64:=by
 cases e:bt q.opn n with
 |none=>exact⟨Y! _,I!⟩
 |some v=>
  have:=h.key n v<|(eA h.g.on).1 e;exact⟨by show 0<=v;omega,by show v<=64;omega⟩
theorem iq.mono(h:iq N q){M:Nat}(e:N<=M):iq M q:=⟨h.g,h.l8,h.c0,by have:=h.ck;omega,h.key,h.cnt,h.w⟩
theorem iq.new(e:Int)(t:Bool)(o:1<=e)(i:e<=1500):iq 0<|yB e t:=
 ⟨ia.new e t o i,S! _,Y! _,(by show(0:Int)+0<=0;omega),(λk v h=>absurd h Ξ),(λn=>rfl),(λk l h=>absurd h Ξ)⟩
theorem iA{s:Type}{m:KV s}{i k:Int}{v a:s}(h:(i,a)∈bI m k v):(i=k/\a=v)\/(i≠k/\(i,a)∈m):=by
 by_cases o:au m k=C?
 .rw[mg o]at h;let⟨x,r,e⟩:=a!.1 h;by_cases t:x.1=k
  .simp[t]at e;exact .inl ⟨e.1.symm,e.2.symm⟩
  .simp[t]at e;subst e;exact .inr ⟨t,r⟩
 .have n:=z! _▸o;rw[mq n,ό]at h;rcases h with h|h
  .by_cases e:i=k
   .exfalso;have:=dI.2<|a!.2 ⟨_,h,rfl⟩;simp only[e]at this;rw[n]at this;cases this
   .exact .inr ⟨e,h⟩
  .simp at h;exact .inl h
theorem eG{e:Type}{m:KV e}{k:Int}{v:e}:(bI m k v).length=if au m k=C? then m.length else m.length+1:=by
 have:=U! List.length<|Fu m k v;rw[g!]at this;rw[this];split<;>simp
theorem kN{e:Type}(m:KV e)(k:Int):(dB m k).length<=m.length:=ϝ _ _
theorem vH{e:Type}{m:KV e}{i k:Int}{a:e}(h:(i,a)∈dB m k):i≠k/\(i,a)∈m:=by
 unfold dB at h;have:=List.mem_filter.1 h;exact⟨by simpa using this.2,this.1⟩
theorem JO{t:Type}{m:KV t}{k:Int}(h:au m k=H!):bt m k=none:=by
 rw[fK]at h;cases e:bt m k with|none=>rfl|some _=>rw[e]at h;cases h
theorem iq.add(h:iq N q)(k:Int):iq N (Bd q k).1:=by
 have t:=h.g.add k;unfold Bd at t|-;split
 .exact h
 .rename_i s;split
  .exact h
  .rename_i r;rw[F! s,F! r]at t
   have hkn:au q.lanes k=false:=by
    cases e:au q.lanes k with
    |true=>exact absurd (.inr e) s
    |false=>rfl
   refine⟨t,?_,h.c0,h.ck,h.key,λn=>?_,λi l o=>?_⟩
   .show(bI q.lanes k jB).length<=8;rw[eG,F! mc4];omega
   .have:=y8 jB n h.g.ln (k:=k);rw[JO hkn]at this;show((nR (bI q.lanes k jB) n:Nat):Int)=_;rw[<-h.cnt n];have e:lG ((L?:Option fk).getD jB).waits n=lG jB.waits n:=rfl;omega
   .rcases iA o with⟨_,rfl⟩|⟨_,o⟩
    .show((0:Nat):Int)<=64*q.cut;have:=h.c0;omega
    .exact h.w i l o
theorem iq.UA(h:iq N q)(k:Int):((aL q k).waits.length:Int)<=64*q.cut:=by
 unfold aL;cases e:bt q.lanes k with
 |none=>
  show((0:Nat):Int)<=_;have:=h.c0;omega
 |some l=>exact h.w k l<|(eA h.g.ln).1 e
theorem iq.drain(h:iq N q)(k:Int):iq N (pG q k).1:=by
 have t:=h.g.drain k;unfold pG at t|-;split
 .rename_i s;rw[G? s]at t;refine⟨t,?_,h.c0,h.ck,h.key,λn=>?_,λi l o=>?_⟩
  .show(bI q.lanes k _).length<=8;rw[eG,G? s];exact h.l8
  .have:=y8 {aL q k with drains:=C?} n h.g.ln (k:=k);show((nR (bI q.lanes k _) n:Nat):Int)=_;rw[<-h.cnt n];have e:lG ((bt q.lanes k).getD jB).waits n=lG (aL q k).waits n:=rfl;have r:lG ({aL q k with drains:=C?}:fk).waits n=lG (aL q k).waits n:=rfl;rw[e,r]at this;omega
  .rcases iA o with⟨_,rfl⟩|⟨_,o⟩
   .exact h.UA k
   .exact h.w i l o
 .exact h
theorem iq.drop(h:iq N q)(k:Int):iq N (vk q k).1:=by
 have t:=h.g.drop k;unfold vk at t|-;split
 .exact h
 .rename_i hk;split
  .exact h
  .rename_i o;rw[F! hk,F! o]at t;have d:=ϸ o;have s:au q.lanes k=true:=meg;refine⟨t,Z? (kN _ _) h.l8,h.c0,h.ck,h.key,λn=>?_,λi l r=>h.w i l (vH r).2⟩;have:=Oq n h.g.ln s;show((nR (dB q.lanes k) n:Nat):Int)=_;rw[<-h.cnt n]
   have e:lG ((bt q.lanes k).getD jB).waits n=0:=by
    show lG (aL q k).waits n=0;rw[d];rfl
   omega
theorem iq.RG(h:iq N q)(s:ByteArray):iq (N+1) (ig q s).1:=by
 have e:=h.g.RG s;unfold ig at e|-;split
 .exact h.mono B!
 .rename_i o;split
  .exact h.mono B!
  .rename_i t;rw[F! o,F! t]at e;refine⟨e,h.l8,h.c0,?_,h.key,h.cnt,h.w⟩;have:=h.ck;show q.cut+((q.bB++[s]).length:Nat)<=_;exact mcP
section
theorem Wj.trans{j j1 j2:aT}(h:Wj j j1)(k:Wj j1 j2):Wj j j2:=
 ⟨k.h.trans h.h,o? h.l0 k.l0,o? k.l1 h.l1,k.m.trans h.m,k.s.trans h.s,k.k.trans h.k⟩
theorem Ot{j:aT}(h:(fA j).2.2=H!):((fA j).1.held.length:Int)<=j.most:=by
 have o:∀j:aT,(mA j).2.2=H!->((mA j).1.held.length:Int)<=j.most:=λj t=>by
  unfold mA at t|-;by_cases e:(j.held.length:Int)<=j.most
  .rw[G? e];exact e
  .rw[F! e]at t;cases t
 unfold fA at h|-;split at h
 .split at h
  .rename_i e;rw[e]at h;cases h
  .rename_i e;rw[F! e];exact o j h
 .split at h
  .cases h
  .rename_i e;rw[F! e];exact o j h
theorem JQ:∀(n:Nat) {j:aT} (o:List ByteArray),gH j->Gq j<n->Wj j (sM n j o).1/\((sM n j o).1.held.length:Int)<=j.most/\gH (sM n j o).1/\(sM n j o).2.length+(sM n j o).1.held.length<=o.length+j.held.length
 |0,j,o,_,h=>B!
 |n+1,j,o,l,z=>by
  rw[Dw];have r:=Oo j;have w:=Gv l
  have u:(told o (fA j).2.1).length+(fA j).1.held.length<=o.length+j.held.length:=by
   have:=r.h.length_le;rcases w with e|⟨_,e⟩
   .rw[e];show o.length+_<=_;omega
   .cases g:(fA j).2.1 with
    |none=>show o.length+_<=_;omega
    |some t=>show(o++[bytesOf t]).length+_<=_;rw[X!,baW];omega
  by_cases s:(fA j).2.2=C?
  .rw[G? s];let⟨f,g⟩:=Dv l s;let⟨y,m,b,v⟩:=JQ n (told o (fA j).2.1) f B!;refine⟨r.trans y,?_,b,Z? v u⟩;rw[r.m]at m;exact m
  .have i:=z! _▸s;rw[F! s];refine⟨r,Ot i,?_,u⟩
   have:(fA j).1=j:=by
    unfold fA at i|-
    have c:(mA j).2.2=H!->(mA j).1=j:=λd=>by
     unfold mA at d|-;by_cases e:(j.held.length:Int)<=j.most
     .rw[G? e]
     .rw[F! e]at d;cases d
    split at i
    .split at i
     .rename_i e;rw[e]at i;cases i
     .rename_i e;rw[F! e];exact c i
    .split at i
     .cases i
     .rename_i e;rw[F! e];exact c i
   rw[this];exact l
structure xK(N:Nat)(j:aT):Prop where
 g:gH j
 d:∀x∈j.held,x.2.d.size<=2048
 l0:0<=j.lost
 h:j.held.length<=128
 mo:j.most=128
 ln:j.links.length<=8
 bud:j.lost+j.held.length<=N
variable{j:aT}
theorem xK.mono(h:xK N j){M:Nat}(e:N<=M):xK M j:=⟨h.g,h.d,h.l0,h.h,h.mo,h.ln,by have:=h.bud;omega⟩
theorem xK.new(e:Bool):xK 0<|Ce e 128:=
 ⟨⟨Y! _,(by have:=vG e;show(0:Int)<gh e;omega),baT,(λx h=>absurd h Ξ),baT,(λx h=>absurd h Ξ),(by decide:(0:Int)<=128)⟩,
   (λx h=>absurd h Ξ),Y! _,S! _,rfl,S! _,(by show(0:Int)+0<=0;omega)⟩
theorem xK.add(h:xK N j)(k:Int):xK N (kH j k).1:=by
 unfold kH;split
 .exact h
 .rename_i o;split
  .exact h
  .rename_i n
   have hkn:au j.links k=false:=by
    cases e:au j.links k with
    |true=>exact absurd (.inr e) o
    |false=>rfl
   refine⟨⟨h.g.n0,h.g.n1,h.g.nd,h.g.ks,fL h.g.ln _ _,λx t=>?_,h.g.m0⟩,h.d,h.l0,h.h,h.mo,?_,h.bud⟩
   .obtain⟨i,s⟩:=x;rcases iA t with⟨_,rfl⟩|⟨_,t⟩
    .have:=eF j;show(-1:Int)<cG j;omega
    .exact h.g.ls _ t
   .show(bI j.links k<|-1).length<=8;rw[eG,F! mc4];omega
theorem xK.drop(h:xK N j)(k:Int):xK N (Aw j k).1:=by
 unfold Aw;split
 .exact⟨⟨h.g.n0,h.g.n1,h.g.nd,h.g.ks,fM h.g.ln _,λx e=>h.g.ls x (List.mem_filter.1 e).1,h.g.m0⟩,h.d,h.l0,h.h,h.mo,Z? (kN _ _) h.ln,h.bud⟩
 .exact h
theorem JT{f:bF}{e:Bool}(h:(eU f e).2=0):0<=f.seq/\f.seq<gh e/\f.d.size<=2048:=by
 unfold eU at h;split at h
 .cases h
 .rename_i t;omega
theorem xK.put(h:xK N j)(k:Int)(f:bF):xK (N+1) (rT j k f).1/\(rT j k f).2.1.length+(rT j k f).1.held.length<=j.held.length+1:=by
 have g:=h.mono (M:=N+1) B!;unfold rT;split
 .exact⟨g,by show 0+j.held.length<=j.held.length+1;omega⟩
 .rename_i L;have D:au j.links k=true:=by cases e:au j.links k with|true=>rfl|false=>exact absurd e L
  split
  .exact⟨g,by show 0+j.held.length<=j.held.length+1;omega⟩
  .rename_i R;let⟨A,u,O⟩:=JT<|ϸ R
   have n:gH {j with links:=bI j.links k f.seq}:=
    ⟨h.g.n0,h.g.n1,h.g.nd,h.g.ks,fL h.g.ln _ _,λx l=>by
      obtain⟨i,s⟩:=x;rcases iA l with⟨_,rfl⟩|⟨_,l⟩
      .exact u
      .exact h.g.ls _ l,h.g.m0⟩
   have m:(bI j.links k f.seq).length<=8:=by rw[eG,G? D];exact h.ln
   have z:∀J:aT,gH J->(∀x∈J.held,x.2.d.size<=2048)->0<=J.lost->J.most=128->J.links.length<=8->J.lost+J.held.length<=(N:Int)+1->J.held.length<=j.held.length+1->
    xK (N+1) (sM (rL J) J []).1/\(sM (rL J) J []).2.length+(sM (rL J) J []).1.held.length<=j.held.length+1:=by
    intro J H S C y E I B;have V:=Lw J;let⟨d,G,W,Y⟩:=JQ (rL J) [] H (by unfold rL;omega);refine⟨⟨W,λx l=>S x<|d.h.subset l,o? C d.l0,?_,d.m.trans y,by rw[d.k];exact E,?_⟩,?_⟩
    .rw[y]at G;omega
    .have:=d.l1;omega
    .simp only[l?]at Y;omega
   have I:=h.bud;dsimp only;split
   .exact z _ ⟨n.n0,n.n1,n.nd,n.ks,n.ln,n.ls,n.m0⟩ h.d (by have:=h.l0;show 0<=j.lost+1;omega) h.mo m (by show j.lost+1+(j.held.length:Nat)<=_;omega) (by show j.held.length<=_;omega)
   .rename_i F
    have hkn:au j.held f.seq=false:=by
     cases e:au j.held f.seq with
     |true=>exact absurd (.inl e) F
     |false=>rfl
    refine z _ ⟨n.n0,n.n1,fL n.nd _ _,λx l=>?_,n.ln,n.ls,n.m0⟩ (λx l=>?_) h.l0 h.mo m ?_ ?_
    .obtain⟨i,s⟩:=x;rcases iA l with⟨rfl,_⟩|⟨_,l⟩
     .exact⟨A,u⟩
     .exact n.ks _ l
    .obtain⟨i,s⟩:=x;rcases iA l with⟨_,rfl⟩|⟨_,l⟩
     .exact O
     .exact h.d _ l
    .show j.lost+((bI j.held f.seq f).length:Nat)<=_;rw[eG,F! mc4];omega
    .show(bI j.held f.seq f).length<=_;rw[eG,F! mc4];omega
structure xL(t:dD):Prop where
 l0:0<=t.left
 l1:t.left<=10
 t0:1<=t.tries
 t1:t.tries<=10
 i0:0<=t.id
 i1:t.id<=255
 c0:0<=t.ask.code
 c1:t.ask.code<=8
 oa:t.ask.opts.length*24<=140737488355328
 ol:t.last.opts.length*24<=140737488355328
variable{t:dD}
theorem xL.new(o:Bool)(e:Int)(i:1<=e)(n:e<=10):xL<|Cf o e:=
 ⟨Y! 0,bbh,i,n,Y! 0,(by show(0:Int)<=255;decide),Y! 0,(by show(0:Int)<=8;decide),(by show 0*24<=_;decide),(by show 0*24<=_;decide)⟩
theorem xL.ask(h:xL t)(e:Int)(o:List bD)(n:o.length<=1024)(i:0<=e/\e<=8):xL (YW t e o).1:=by
 unfold YW;dsimp only;split
 .exact h
 .split
  .exact h
  .exact⟨by have:=h.t0;show 0<=t.tries;omega,h.t1,h.t0,h.t1,by show 0<=(t.id+1)%256;omega,by show(t.id+1)%256<=255;omega,i.1,i.2,by show o.length*24<=_;omega,h.ol⟩
theorem xL.again(h:xL t):xL (kX t).1:=by
 unfold kX;split
 .exact h
 .split
  .exact⟨Y! 0,bbh,h.t0,h.t1,h.i0,h.i1,h.c0,h.c1,h.oa,h.ol⟩
  .refine⟨?_,?_,h.t0,h.t1,h.i0,h.i1,h.c0,h.c1,h.oa,h.ol⟩
   .have:=h.l0;show 0<=t.left-1;omega
   .have:=h.l1;show t.left-1<=10;omega
theorem xL.zero(h:xL t):xL {t with left:=0}:=⟨Y! 0,bbh,h.t0,h.t1,h.i0,h.i1,h.c0,h.c1,h.oa,h.ol⟩
theorem xL.take(h:xL t)(b:cR)(o:Bool)(e:b.opts.length*24<=140737488355328):xL (lw t b o).1:=by
 unfold lw;split
 .exact h
 .split
  .unfold eW;dsimp only;split
   .exact h.zero
   .exact h
  .split
   .exact h
   .split
    .exact⟨Y! 0,bbh,h.t0,h.t1,h.i0,h.i1,h.c0,h.c1,h.oa,e⟩
    .exact h
end
section
open Go.RowKit Go.Crc
structure jX(p:bM):Prop where
 l0:0<=p.left
 l1:p.left<=10
 pos:p.failed=H!->1<=p.left
 e:p.expect.size<=64
 c:p.bZ.size<=255
 s:p.secret.size<=64
 n:p.name.size<=32
variable{p:bM}
theorem jX.start(h:jX p)(c:ByteArray):jX (kY p c).1:=by
 unfold kY;split
 .exact h
 .rename_i e;split
  .exact h
  .exact⟨h.l0,h.l1,h.pos,h.e,(by show c.size<=255;omega),h.s,h.n⟩
theorem jX.again(h:jX p):jX (gj p).1:=by
 unfold gj;split
 .exact h
 .rename_i t;have o:p.failed=false:=by cases e:p.failed with|false=>rfl|true=>exact absurd (.inr (.inr e)) t
  have n:=h.pos o;split
  .exact⟨Y! 0,bbh,(λe=>ϱ),h.e,h.c,h.s,h.n⟩
  .rename_i i;refine⟨?_,?_,λ_=>?_,h.e,h.c,h.s,h.n⟩
   .show 0<=p.left-1;omega
   .show p.left-1<=10;have:=h.l1;omega
   .show 1<=p.left-1;omega
theorem jX.take(h:jX p)(c:cT):jX (cw p c).1:=by
 have t:jX {p with failed:=C?}:=⟨h.l0,h.l1,(λe=>ϱ),h.e,h.c,h.s,h.n⟩;unfold cw;split
 .exact h
 .split
  .exact h
  .split
   .exact h
   .split
    .split
     .exact h
     .split
      .exact t
      .exact⟨h.l0,h.l1,h.pos,h.e,h.c,h.s,h.n⟩
    .split
     .exact⟨h.l0,h.l1,h.pos,h.e,h.c,h.s,h.n⟩
     .exact t
theorem jX.new{l s o:ByteArray}{t:Int}{q:bM}(h:qX l s o t=C! q):jX q:=by
 unfold qX at h;split at h
 .cases h
 .rename_i r;cases h
  have n:eO s=true:=by cases e:eO s with|true=>rfl|false=>exact absurd (.inr (.inl e)) r
  have i:eO o=true:=by cases e:eO o with|true=>rfl|false=>exact absurd (.inr (.inr (.inl e))) r
  unfold eO at n i;simp only[k!,z?]at n i;exact⟨(by show 0<=t;omega),(by show t<=10;omega),(λ_=>by show 1<=t;omega),i.2,(by show 0<=255;omega),n.2,(by show l.size<=32;omega)⟩
def uJ(c:cT):Prop:=c.value.size<=255
theorem Ou(i:Int)(s v:ByteArray):(gU i s v).size=16:=rfl
theorem jX.ae5(h:jX p)(c:ByteArray):uJ (kY p c).2.1:=by
 have e:=(h.start c).c;unfold kY at e|-;split
 .exact S! _
 .split
  .exact S! _
  .rename_i t o;rw[F! t,F! o]at e;exact e
theorem jX.ZE(h:jX p):uJ (gj p).2.1:=by
 unfold gj;split
 .exact S! _
 .split
  .exact S! _
  .exact h.c
theorem jX.aef(h:jX p)(c:cT):∀x∈(cw p c).2.1,uJ x:=by
 intro x e;unfold cw at e;split at e
 .cases e
 .split at e
  .cases e
  .split at e
   .simp only[j?]at e;subst e;show(gU _ _ _).size<=255;rw[Ou];decide
   .split at e
    .split at e
     .cases e
     .split at e<;>(simp only[j?]at e;subst e;exact S! _)
    .split at e<;>cases e
theorem JU(p:bM)(c:cT):(cw p c).2.1.length<=1:=by
 unfold cw;split
 .exact S! _
 .split
  .exact S! _
  .split
   .exact Y? _
   .split
    .split
     .exact S! _
     .split<;>exact Y? _
    .split<;>exact S! _
theorem ZF(m:Int)(l:List UInt8):(mz m l).length<=2*l.length:=by
 induction l with
 |nil=>exact Y? _
 |cons c l e=>
  have:=Au m c;show(uz m c++mz m l).length<=_;rw[X!,V!];omega
theorem Gy(q:Int)(d:List UInt8)(m:Int):(frameT q d m).1.length<=4110:=by
 unfold frameT;split
 .exact S! _
 .split
  .exact S! _
  .have:=ZF m (put<|FP q++d);have e:(put<|FP q++d).length=d.length+6:=by unfold put FP;simp
   rw[e]at this;show([126]++mz m (put<|FP q++d)++[126]).length<=_;simp only[X!,V!,l?];omega
theorem zS(l:aM)(q:Int)(d:List UInt8):(jO l q d).out.length<=l.out.length+4110:=by
 unfold jO;split
 .have:=Gy q d 0;show(l.out++_).length<=_;rw[X!];omega
 .omega
theorem LB(l:aM)(q:bg):(nN l q).out.length<=l.out.length+4110:=by
 unfold nN;split
 .exact zS _ _ _
 .omega
theorem rY:∀(e:List bg) (l:aM),(dn l e).out.length<=l.out.length+4110*e.length
 |[],l=>Y? _
 |q::e,l=>by
  have t:=LB l q;have o:=rY e<|nN l q;show(dn (nN l q) e).out.length<=_;exact baN
theorem Gz(l:aM)(c:cT):(kJ l c).out.length<=l.out.length+4110:=by
 have h:(if(cx c).2=0 then jO l 49699 (cx c).1 else l).out.length<=l.out.length+4110:=by
  split
  .exact zS _ _ _
  .omega
 unfold kJ;dsimp only;split
 .exact h
 .exact h
theorem JV(r:cL):∀(e:List Int) (x:cu×List bg),(e.foldl (FH r) x).2.length<=x.2.length+e.length
 |[],x=>Y? _
 |a::e,x=>by
  have t:=JV r e<|FH r x a;rw[r!]
  have o:(FH r x a).2.length<=x.2.length+1:=by
   show(x.2++Option.toList _).length<=_;rw[X!];cases(nk (kD x.1 a) a r).2<;>simp
  exact baN
theorem GA(s:cu)(e:Int)(r:cL):(qj s e r).2.1.length<=8:=by
 unfold qj;split
 .exact S! _
 .have:=JV {r with event:=e} (bN s.state e).2.1 ({s with state:=(bN s.state e).1},[]);have t:=I0 s.state e;simp only[l?]at this;show(BV _ _ _).2.length<=8;unfold BV;omega
theorem Cy(s:cu)(e:Int):(yo s e).2.1.length<=8:=by
 unfold yo;split
 .exact GA _ _ _
 .split
  .exact GA _ _ _
  .exact S! _
theorem m7(s:cu)(q:bg):(dU s q).2.1.length<=8:=by
 unfold dU;split
 .exact S! _
 .split
  .exact S! _
  .split
   .exact S! _
   .exact GA _ _ _
structure di(N r:Nat)(i:Int)(l:aM):Prop where
 id:l.id=i
 pf:∀p,l.proof=C! p->jX p
 an:uJ l.answer
 a0:0<=l.answers
 a1:l.answers<=N
 bf:l.buffer.length<=6144
 out:l.out.length<=40000*r
 tm:∀k,l.term=C! k->k.data.size<=4096
variable{r:Nat}{i:Int}{l:aM}
theorem di.mono(h:di N r i l){M s:Nat}(e:N<=M)(t:r<=s):di M s i l:=⟨h.id,h.pf,h.an,h.a0,by have:=h.a1;omega,h.bf,by have:=h.out;omega,h.tm⟩
theorem di.sent(h:di N r i l){e:aM}{n:Nat}(m:n<=40000)(f:e.out.length<=l.out.length+n)(o:e.id=l.id)(s:e.proof=l.proof)(d:e.answer=l.answer)(t:e.answers=l.answers)(c:e.buffer=l.buffer)(u:e.term=l.term):di N (r+1) i e:=
 ⟨o.trans h.id,by rw[s];exact h.pf,by rw[d];exact h.an,by rw[t];exact h.a0,by rw[t];exact h.a1,by rw[c];exact h.bf,by have:=h.out;omega,by rw[u];exact h.tm⟩
structure kE(l l':aM):Prop where
 neg:l'.neg=l.neg
 proof:l'.proof=l.proof
 id:l'.id=l.id
 phase:l'.phase=l.phase
 dials:l'.dials=l.dials
 num:l'.num=l.num
 drop:l'.drop=l.drop
 buffer:l'.buffer=l.buffer
 at_:l'.at_=l.at_
 over:l'.over=l.over
 answer:l'.answer=l.answer
 answers:l'.answers=l.answers
 term:l'.term=l.term
 ready:l'.ready=l.ready
theorem kE.refl(l:aM):kE l l:=⟨rfl,rfl,rfl,rfl,rfl,rfl,rfl,rfl,rfl,rfl,rfl,rfl,rfl,rfl⟩
theorem kE.trans{a b c:aM}(h:kE a b)(k:kE b c):kE a c:=
 ⟨k.neg.trans h.neg,k.proof.trans h.proof,k.id.trans h.id,k.phase.trans h.phase,k.dials.trans h.dials,k.num.trans h.num,k.drop.trans h.drop,k.buffer.trans h.buffer,k.at_.trans h.at_,k.over.trans h.over,k.answer.trans h.answer,k.answers.trans h.answers,k.term.trans h.term,k.ready.trans h.ready⟩
theorem Bn(l:aM)(q:Int)(d:List UInt8):kE l<|jO l q d:=by
 unfold jO;split
 .exact⟨rfl,rfl,rfl,rfl,rfl,rfl,rfl,rfl,rfl,rfl,rfl,rfl,rfl,rfl⟩
 .exact kE.refl _
theorem I4(l:aM)(q:bg):kE l<|nN l q:=by
 unfold nN;split
 .exact Bn _ _ _
 .exact kE.refl _
theorem lK:∀(e:List bg) (l:aM),kE l (dn l e)
 |[],l=>kE.refl _
 |q::e,l=>(I4 l q).trans<|lK e _
section
variable(h:di N r i l)
include h
theorem di.but{t:aM}(e:kE l t){n:Nat}(o:n<=40000)(s:t.out.length<=l.out.length+n):di N (r+1) i t:=h.sent o s e.id e.proof e.answer e.answers e.buffer e.term
theorem di.send(q:Int)(d:List UInt8):di N (r+1) i<|jO l q d:=h.but (Bn _ _ _) I!<|zS _ _ _
theorem di.LC{e:List bg}(t:e.length<=8):di N (r+1) i<|dn l e:=h.but (lK _ _) (n:=32880) I! (by have:=rY e l;omega)
theorem di.neg(s:cu):di N r i {l with neg:=s}:=⟨h.id,h.pf,h.an,h.a0,h.a1,h.bf,h.out,h.tm⟩
theorem di.do(e:Int):di N (r+1) i<|wk l e:=(h.neg _).LC<|Cy _ _
theorem di.take(x:bg):di N (r+1) i<|cq l x:=(h.neg _).LC<|m7 _ _
theorem di.setAt(t:Int):di N r i {l with at_:=t}:=⟨h.id,h.pf,h.an,h.a0,h.a1,h.bf,h.out,h.tm⟩
theorem di.begin(t:Int):di N (r+2) i<|Bf l t:=((h.setAt t).do 2).do 0
theorem di.ask(g:Int):di N (r+1) i<|lC l g:=h.LC N!
end
theorem Eh(l:aM)(c:cT):kE {l with answer:=(kJ l c).answer} (kJ l c)/\((kJ l c).answer=c\/(kJ l c).answer=l.answer):=by
 have h:kE l<|if(cx c).2=0 then jO l 49699 (cx c).1 else l:=by
  split
  .exact Bn _ _ _
  .exact kE.refl _
 unfold kJ;dsimp only;split
 .exact⟨⟨h.neg,h.proof,h.id,h.phase,h.dials,h.num,h.drop,h.buffer,h.at_,h.over,rfl,h.answers,h.term,h.ready⟩,.inl rfl⟩
 .exact⟨⟨h.neg,h.proof,h.id,h.phase,h.dials,h.num,h.drop,h.buffer,h.at_,h.over,rfl,h.answers,h.term,h.ready⟩,.inr h.answer⟩
section
variable(h:di N r i l)
include h
theorem di.kJ{c:cT}(n:uJ c):di N (r+1) i<|kJ l c:=by
 let⟨s,o⟩:=Eh l c;have t:di N r i {l with answer:=(Go.Proofs.YtncddkcponjlpaaGreatDoor.kJ l c).answer}:=⟨h.id,h.pf,by rcases o with e|e<;>(show uJ (Go.Proofs.YtncddkcponjlpaaGreatDoor.kJ l c).answer;rw[e]);exact n;exact h.an,h.a0,h.a1,h.bf,h.out,h.tm⟩;exact t.but s I!<|Gz l c
theorem di.say{e:List cT}(t:∀c∈e,uJ c)(o:e.length<=1):di N (r+1) i<|lS l e:=by
 cases e with
 |nil=>exact h.mono B! B!
 |cons c e=>
  cases e with
  |nil=>exact h.kJ<|t c<|x! ..
  |cons _ _=>simp at o
theorem di.prf{o:Option bM}(e:∀p,o=C! p->jX p)(n t:Int):di N r i {l with phase:=n,at_:=t,proof:=o}:=⟨h.id,e,h.an,h.a0,h.a1,h.bf,h.out,h.tm⟩
theorem di.ZG{q:bM}(e:jX q):di N r i {l with proof:=C! q}:=⟨h.id,(λp t=>by cases t;exact e),h.an,h.a0,h.a1,h.bf,h.out,h.tm⟩
theorem di.acR{c:cT}(e:uJ c):di N (r+1) i<|lS l [c]:=h.kJ e
theorem di.prove(c:cP)(s t d:Int):di N (r+1) i<|kq l c s t d:=by
 unfold kq;dsimp only;cases e:qX (if s=1 then⟨#[98]⟩else⟨#[97]⟩) (if s=1 then c.bT else c.bR) c.expect c.tries with
 |none=>exact(h.prf (o:=L?) (λp n=>by cases n) 3 t).acR<|S! _
 |some q=>exact((h.prf (o:=C! q) (λp n=>by cases n;exact jX.new e) 3 t).ZG<|(jX.new e).start _).acR<|(jX.new e).ae5 _
theorem di.again(c:Int):di (N+1) (r+1) i (kr l c).1:=by
 have o:=h.mono (M:=N+1) (s:=r) B! O?;unfold kr;by_cases d:Cg l=C?
 .rw[G? d];dsimp only;have t:di (N+1) r i {l with answers:=l.answers+1}:=⟨h.id,h.pf,h.an,(by have:=h.a0;show 0<=l.answers+1;omega),(by have:=h.a1;show l.answers+1<=((N+1:Nat):Int);omega),h.bf,h.out,h.tm⟩;split
  .exact t.mono O? B!
  .dsimp only;split
   .exact t.acR h.an
   .exact t.mono O? B!
 .rw[F! d];cases e:l.proof with
  |none=>exact o.mono O? B!
  |some q=>
   dsimp only;have n:=h.pf q e;split
   .exact(o.ZG n.again).acR n.ZE
   .exact(o.ZG n.again).mono O? B!
theorem di.frames(s:List UInt8):di N r i (gL l s).1:=by
 refine⟨h.id,h.pf,h.an,h.a0,h.a1,?_,h.out,h.tm⟩;show(if _ then _ else _:List UInt8).length<=_;split
 .exact S! _
 .omega
end
end
section
variable{row:List Int}{n:Int}{lanes:KV fk}{x:bF×Nat}(hn:(lanes.map (·.1)).Nodup)
include hn
theorem O4(m:Int):nR (fC row n lanes x) m=nR lanes m+(if n=m then 1 else 0):=by
 unfold fC;have:=y8 {(bt lanes<|row.getD (x.2%row.length) 0).getD jB with waits:=((bt lanes<|row.getD (x.2%row.length) 0).getD jB).waits++[(x.1,n)]} m hn (k:=row.getD (x.2%row.length) 0)
 have e:lG ({(bt lanes<|row.getD (x.2%row.length) 0).getD jB with waits:=((bt lanes<|row.getD (x.2%row.length) 0).getD jB).waits++[(x.1,n)]}:fk).waits m=lG ((bt lanes<|row.getD (x.2%row.length) 0).getD jB).waits m+(if n=m then 1 else 0):=by
  show lG (_++[(x.1,n)]) m=_;rw[ZC,Dx];rfl
 rw[e]at this;simp only at this|-;omega
theorem AR:((fC row n lanes x).map (·.1)).Nodup:=fL hn _ _
end
theorem Eo{o:List Int}{n:Int}(m:Int):∀(t:List<|bF×Nat) {e:KV fk},(e.map (·.1)).Nodup->nR (t.foldl (fC o n) e) m=nR e m+(if n=m then t.length else 0)
 |[],e,_=>by rw[mdc];split<;>simp
 |x::t,e,h=>by
  rw[r!,Eo m t<|AR h,O4 h,V!];split<;>omega
theorem L6{row:List Int}{n:Int}{e:KV fk}{x:bF×Nat}{B:Nat}(s:(e.map (·.1)).Nodup)(h:∀k l,(k,l)∈e->l.waits.length<=B):∀k l,(k,l)∈fC row n e x->l.waits.length<=B+1:=by
 intro k l t;rcases iA t with⟨_,rfl⟩|⟨_,t⟩
 .show(_++[_]).length<=_;rw[X!,baW];cases i:bt e (row.getD (x.2%row.length) 0)with
  |none=>show 0+1<=_;omega
  |some o=>
   have:=h _ o<|(eA s).1 i;show o.waits.length+1<=_;omega
 .have:=h k l t;omega
theorem CT{row:List Int}{n:Int}:∀(t:List<|bF×Nat) {e:KV fk} {B:Nat},(e.map (·.1)).Nodup->(∀k l,(k,l)∈e->l.waits.length<=B)->∀k l,(k,l)∈t.foldl (fC row n) e->l.waits.length<=B+t.length
 |[],e,B,_,h=>h
 |x::t,e,B,o,h=>λk l i=>by
  have:=CT t (AR o) (L6 (x:=x) (row:=row) (n:=n) o h) k l i;exact baN
theorem J7(h:iq N q):au q.opn q.cut=false:=by
 cases e:au q.opn q.cut with
 |false=>rfl
 |true=>
  let⟨⟨a,v⟩,o,t⟩:=a!.1<|dI.1 e;simp only at t;have:=h.key a v o;omega
def oX(q:bh):List bF:=yA (q.bB.headD ⟨#[]⟩) (rA q) q.seq q.short
theorem Jb(h:iq N q)(i:q.bB≠[]):1<=(oX q).length/\(oX q).length<=64:=by
 let⟨t,d,o⟩:=Ee h.g;refine⟨?_,Gw _ _ _ _ t o⟩
 have n:1<=(q.bB.headD ⟨#[]⟩).size:=by
  cases e:q.bB with
  |nil=>exact absurd e i
  |cons s r=>exact(h.g.pk s<|by rw[e];exact x! ..).1
 let⟨f,l,e⟩:=yY (q.bB.headD ⟨#[]⟩) (rA q) q.seq q.short n;unfold oX;rw[e,V!];omega
theorem GU(q:bh)(k:Int):pY q k={q with lanes:=((oX q).zipIdx).foldl (fC (jN q k) q.cut) q.lanes,opn:=bI q.opn q.cut (oX q).length,cut:=q.cut+1,bB:=q.bB.tail,seq:=(q.seq+(oX q).length)%gh q.short}:=rfl
theorem iq.acO(h:iq N q)(u:au q.lanes k=C?)(d:(aL q k).drains=H!)(m:q.bB≠[]):iq N<|pY q k:=by
 have c:=h.g.acO u d;let⟨O,I⟩:=Jb h m;let⟨r,w⟩:=mY h.g u d;have y:jN q k≠[]:=by rw[w];simp
 have E:=h.c0;have f:=J7 h;have A:=ϛ.2 m;rw[GU]at c|-;refine⟨c,?_,?_,?_,λi v s=>?_,λn=>?_,λi l o=>?_⟩
 .have:=U! List.length (mZ y (n:=q.cut) ((oX q).zipIdx) q.lanes λj g=>oT g).1;rw[g!,g!]at this;show List.length (List.foldl _ _ _)<=8;rw[this];exact h.l8
 .show 0<=q.cut+1;omega
 .have:=h.ck;show q.cut+1+(q.bB.tail.length:Nat)<=_;rw[mb0];omega
 .show 0<=i/\i<q.cut+1/\_;rcases iA s with⟨rfl,rfl⟩|⟨_,s⟩
  .omega
  .have:=h.key i v s;omega
 .show((nR (List.foldl _ q.lanes _) n:Nat):Int)=(bt (bI q.opn q.cut _) n).getD 0;rw[Eo n _ h.g.ln,iQ,List.length_zipIdx];have t:=h.cnt n;by_cases e:n=q.cut
  .rw[G? e.symm,G? e,ba5];have:bt q.opn n=none:=JO (by rw[e];exact f);rw[this]at t;have z:((nR q.lanes n:Nat):Int)=0:=t;omega
  .rw[F!<|X? e,F! e,<-t];simp
 .have b:∀k l,(k,l)∈q.lanes->l.waits.length<=(64*q.cut).toNat:=λk l o=>by
   have:=h.w k l o;omega
  have:=CT ((oX q).zipIdx) h.g.ln b i l o;rw[List.length_zipIdx]at this;show((l.waits.length:Nat):Int)<=64*(q.cut+1);omega
theorem WW(h:iq N q)(e:q.bB≠[])(k:Int):fN (pY q k)=fN q:=by
 rw[GU];unfold fN;show((q.bB.tail.length:Nat):Int)+((bI q.opn q.cut _).length:Nat)=_;rw[eG,F!<|by rw[J7 h];decide,mb0];have t:=ϛ.2 e;omega
theorem iq.RF(h:iq N q)(k:Int):iq N (bY q k).1/\fN (bY q k).1=fN q:=by
 unfold bY;split
 .exact⟨h,rfl⟩
 .rename_i hk;split
  .exact⟨h,rfl⟩
  .split
   .exact⟨h,rfl⟩
   .rename_i hd;have o:au q.lanes k=true:=meg;have t:(aL q k).drains=false:=naS;exact⟨h.acO o t λe=>hd (.inr e),WW h (λe=>hd (.inr e)) k⟩
theorem aaz(h:iq N q)(o:(bY q k).2.2=0):au (bY q k).1.lanes k=C?/\∃y t,(aL (bY q k).1 k).waits=y::t/\(bY q k).2.1=y.1:=by
 have s:∀l:List<|bF×Int,l≠[]->∃y t,l=y::t:=λl u=>by
  cases l with
  |nil=>exact absurd rfl u
  |cons y t=>exact⟨y,t,rfl⟩
 unfold bY at o|-;split at o
 .cases o
 .rename_i hk;have i:au q.lanes k=true:=meg;rw[F! hk];split at o
  .rename_i n;rw[G? n];let⟨y,t,e⟩:=s _ n;exact⟨i,y,t,e,by simp only[e,bbj]⟩
  .rename_i n;rw[F! n];split at o
   .cases o
   .rename_i hd;rw[F! hd];have d:(aL q k).drains=false:=naS;have f:=yZ h.g i d λe=>hd (.inr e);let⟨y,t,e⟩:=s _ f;let⟨r,m⟩:=mY h.g i d;refine⟨?_,y,t,e,by simp only[e,bbj]⟩;show au (pY q k).lanes k=C?;rw[GU];show au (List.foldl _ _ _) k=C?;rw[(mZ (by rw[m];simp) _ _ λj c=>oT c).2 k];exact i
theorem iq.take(h:iq N q)(k:Int):iq N (iR q k).1/\fN (iR q k).1<=fN q:=by
 have o:=h.g.take k;let⟨t,c⟩:=h.RF k;unfold iR at o|-;dsimp only at o|-;by_cases b:(bY q k).2.2≠0
 .rw[G? b];exact⟨t,by rw[<-c];exact Y! _⟩
 .rw[F! b]at o|-;have L:=ϸ b;obtain⟨I,y,s,d,-⟩:=aaz h L;let⟨Q,E⟩:=F?<|(bY q k).1;rw[E]at t c I d;rw[E]at o|-;simp only[d,bbj,List.tail_cons]at o|-;have w:=t.cnt y.2;have H:=y8 (⟨s,(aL Q k).drains⟩:fk) y.2 t.g.ln (k:=k)
  have f:lG ((bt Q.lanes k).getD jB).waits y.2=1+lG s y.2:=by
   show lG (aL Q k).waits y.2=_;rw[d,Dx,G? rfl]
  have A:∀n,n≠y.2->nR (bI Q.lanes k (⟨s,(aL Q k).drains⟩:fk)) n=nR Q.lanes n:=λn D=>by
   have:=y8 (⟨s,(aL Q k).drains⟩:fk) n t.g.ln (k:=k)
   have f:lG ((bt Q.lanes k).getD jB).waits n=lG s n:=by
    show lG (aL Q k).waits n=_;rw[d,Dx,F!<|X? D];omega
   have g:lG (⟨s,(aL Q k).drains⟩:fk).waits n=lG s n:=rfl;rw[f,g]at this;omega
  have g:lG (⟨s,(aL Q k).drains⟩:fk).waits y.2=lG s y.2:=rfl;rw[f,g]at H
  obtain⟨v,m⟩:∃v,bt Q.opn y.2=C! v:=by
   cases o:bt Q.opn y.2 with
   |some v=>exact⟨v,rfl⟩
   |none=>
    rw[o]at w;have:((nR Q.lanes y.2:Nat):Int)=0:=w;omega
  have M:=t.key y.2 v<|(eA t.g.on).1 m;rw[m,ba5]at w;have O:au Q.opn y.2=true:=by rw[fK,m];rfl
  simp only[m,ba5]at o|-
  have z:(bI Q.lanes k (⟨s,(aL Q k).drains⟩:fk)).length<=8:=by
   rw[eG,G? I];exact t.l8
  have R:∀i l,(i,l)∈bI Q.lanes k (⟨s,(aL Q k).drains⟩:fk)->(l.waits.length:Int)<=64*Q.cut:=λi l j=>by
   rcases iA j with⟨_,rfl⟩|⟨_,j⟩
   .have:=t.UA k;rw[d,V!]at this;show((s.length:Nat):Int)<=_;omega
   .exact t.w i l j
  by_cases S:v-1=0
  .simp only[S,t!]at o|-;refine⟨⟨o,z,t.c0,t.ck,λi u r=>?_,λn=>?_,R⟩,?_⟩
   .let⟨C,r⟩:=vH r;rcases iA r with⟨e,_⟩|⟨_,r⟩
    .exact absurd e C
    .exact t.key i u r
   .show((nR (bI Q.lanes k _) n:Nat):Int)=(bt (dB (bI Q.opn y.2 0) y.2) n).getD 0;rw[Fv];by_cases e:n=y.2
    .subst e;rw[G? rfl];show _=(0:Int);omega
    .rw[F! e,iQ,F! e,A n e];exact t.cnt n
   .unfold fN at c|-;show((Q.bB.length:Nat):Int)+((dB (bI Q.opn y.2 0) y.2).length:Nat)<=_;have:=kN (bI Q.opn y.2 0) y.2;rw[eG,G? O]at this;omega
  .simp only[S,q?]at o|-;refine⟨⟨o,z,t.c0,t.ck,λi u r=>?_,λn=>?_,R⟩,?_⟩
   .show 0<=i/\i<Q.cut/\_;rcases iA r with⟨rfl,rfl⟩|⟨_,r⟩
    .omega
    .exact t.key i u r
   .show((nR (bI Q.lanes k _) n:Nat):Int)=(bt (bI Q.opn y.2<|v-1) n).getD 0;rw[iQ];by_cases e:n=y.2
    .subst e;rw[G? rfl,ba5];omega
    .rw[F! e,A n e];exact t.cnt n
   .unfold fN at c|-;show((Q.bB.length:Nat):Int)+((bI Q.opn y.2<|v-1).length:Nat)<=_;rw[eG,G? O];omega
theorem aaB(q:bh)(k:Int):fN (Bd q k).1=fN q:=by unfold Bd;split;rfl;split<;>rfl
theorem Sr(q:bh)(k:Int):fN (pG q k).1=fN q:=by unfold pG;split<;>rfl
theorem WZ(q:bh)(k:Int):fN (vk q k).1=fN q:=by unfold vk;split;rfl;split<;>rfl
theorem zl(k:Int):∀(n:Nat) {q:bh},iq N q->iq N (qN q k n)/\fN (qN q k n)<=fN q
 |0,q,h=>⟨h,Y! _⟩
 |n+1,q,h=>by
  let⟨e,t⟩:=h.take k;let⟨o,i⟩:=zl k n e;exact⟨o,o? i t⟩
