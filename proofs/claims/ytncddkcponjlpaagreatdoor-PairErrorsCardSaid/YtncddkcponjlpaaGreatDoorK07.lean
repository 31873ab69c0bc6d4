/- Walks and plain laws. -/
import Derived.Test.YtncddkcponjlpaaGreatDoorK06
set_option linter.unusedVariables false
set_option linter.unusedSimpArgs false
set_option maxHeartbeats 0
set_option maxRecDepth 99999
namespace Go.Proofs.YtncddkcponjlpaaGreatDoor
open Go.RowKit Go.Proofs.Tryz
open Go renaming World→D!,Value→I?,Calls→G!,IntKind→ncy
open Go.RowKit renaming Hid→E!
open Decidable renaming decide→K?
open Option renaming some→C!,none→L?
open Bool renaming true→C?,false→H!
open Go.Proofs.Tryz renaming prog→E?
variable{P:Prop}
section
open Go.RowKit Go.MapKept
open Go.ChangeMaps (setBlock)
abbrev ES:=List (Int×I?)
def bp(w:D!)(b:Nat)(i:ES):Prop:=
 ∃(t:Array MapEntry) (o:Nat),w.heap[b]? =C! (.map t o)/\Stamped t o/\t.toList.map (λe=>(e.key,e.val))=i.map (λx=>(Value.int .i64 x.1,x.2))
variable{T:Tag->Prop}{G G1:Nat->Tag}{w w1:D!}{b:Nat}{es:ES}
theorem bp.lt(h:bp w b es):b<w.heap.size:=by
 obtain⟨t,e,h,_⟩:=h;exact(i!.1 h).1
theorem bp.heap(h:bp w b es)(o:w1.heap[b]? =w.heap[b]?):bp w1 b es:=by
 obtain⟨t,e,h,r⟩:=h;exact⟨t,e,o.trans h,r⟩
theorem bp.step(h:bp w b es)(t:Step T G w G1 w1)(e:¬T (G b)):bp w1 b es:=h.heap<|t.keep b h.lt e
theorem bp.below(h:bp w b es)(e:K! w w1):bp w1 b es:=h.heap<|e.block b h.lt
theorem bp.only{S:Nat->Prop}(h:bp w b es)(t:Only S w w1)(e:¬S b):bp w1 b es:=h.heap<|t.block b h.lt e
theorem bp.new(w:D!):bp (w.alloc (.map #[] 0)) w.heap.size []:=⟨#[],0,c! w _,stamped_empty 0,rfl⟩
theorem uV{t:Array MapEntry}(i:t.toList.map (λe=>(e.key,e.val))=es.map (λx=>(Value.int .i64 x.1,x.2))):(∀x∈t.toList,IsKey (.int .i64) x.key)/\t.toList.map (·.key)=es.map (λx=>Value.int .i64 x.1):=by
 have o:t.toList.map (·.key)=es.map (λx=>Value.int .i64 x.1):=by
  have:=U! (List.map Prod.fst) i;simpa[baG,Function.comp_def]using this
 refine⟨λx n=>?_,o⟩;have:x.key∈t.toList.map (·.key):=a!.2 ⟨x,n,rfl⟩;rw[o]at this;let⟨y,_,s⟩:=a!.1 this;rw[<-s];rfl
theorem bp.nodup(h:bp w b es):(es.map (·.1)).Nodup:=by
 obtain⟨l,r,_,s,o⟩:=h;have i:=(uV o).2;have t:=s.2.2;rw[i]at t;have:(es.map λx=>Value.int .i64 x.1)=(es.map (·.1)).map (Value.int .i64):=by rw[baG];rfl
 rw[this]at t;exact(List.pairwise_map.1 t).imp λn e=>n (by rw[e])
theorem ye{t:Array MapEntry}(i:t.toList.map (λe=>(e.key,e.val))=es.map (λx=>(Value.int .i64 x.1,x.2)))(j:Nat)(e:MapEntry)(n:t.toList[j]? =C! e):∃x,es[j]? =C! x/\e.key=.int .i64 x.1/\e.val=x.2:=by
 have:=U! (λl=>l[j]?) i;simp only[q!,n,p?]at this;cases o:es[j]? with
 |none=>rw[o]at this;simp at this
 |some x=>rw[o]at this;simp at this;exact⟨x,rfl,this.1,this.2⟩
variable{P:Program}{mty kt et:TypeId}
theorem pg(h:bp w b es)(c:P.underlying mty=C! (.map kt et))(t:P.underlying kt=C! (.int .i64))(k:Int)(z:I?)(E:(zeroValue et).run P w=.ok z w)(ok:Bool):
 (Instr.lookup mty (.map<|C! b) (.int .i64 k) ok).run P w=.ok (if ok then .tuple #[(bt es k).getD z,H?<|au es k]else(bt es k).getD z) w:=by
 obtain⟨ents,f,s,q,r⟩:=h;let⟨g,hkk⟩:=uV r;rcases findNow_spec (k:=.int .i64 k) (d:=.int .i64) rfl ents.toList 0 g with⟨n,h2⟩|⟨j,e,n,h2,h3⟩
 .have hn:∀x∈es,(x.1==k)=false:=by
   exact mbo
  have o:bt es k=none:=nc3;have i:au es k=false:=by unfold au;rw[bbP];exact λx hx=>by rw[hn x hx];decide
  rw[o,i];simp[Instr.lookup,ba6 c,ϵ s,run_checkKey (P:=P) (w:=w) t (k:=.int .i64 k) rfl,run_findKey t n,E,Result.andThen]
 .let⟨x,hx,hxk,m⟩:=ye r j e h2;have l:x.1=k:=maK;have v:=bp.nodup ⟨ents,f,s,q,r⟩;have u:x∈es:=bbp hx;have o:=BM v u l;have i:au es k=true:=ϋ.2 ⟨x,u,by simp[l]⟩;rw[o,i,<-m];simp[Instr.lookup,ba6 c,ϵ s,run_checkKey (P:=P) (w:=w) t (k:=.int .i64 k) rfl,run_findKey t n,Result.andThen]
theorem sG(w:D!)(b:Nat)(o:Obj)(e:∃i,w.heap[b]? =C! i):Only (· =b) w {w with heap:=w.heap.setIfInBounds b o}:=
 ⟨rfl,rfl,rfl,N!,λk n t=>(heap_set e.choose_spec).2 k t⟩
section
variable{α:Type}{m:KV α}{k:Int}
theorem yg{v:α}(h:∀x∈m,(x.1==k)=H!):bI m k v=m++[(k,v)]:=by
 unfold bI;rw[F!];unfold au;rw[ϋ];rintro⟨x,t,e⟩;rw[h x t]at e;cases e
theorem Fx{v:α}{j:Nat}{x:Int×α}(c:(m.map (·.1)).Nodup)(t:m[j]? =C! x)(n:x.1=k):bI m k v=m.set j (k,v):=by
 have l:au m k=true:=ϋ.2 ⟨x,bbp t,by simp[n]⟩;unfold bI;rw[G? l];apply bbo;intro i;rw[q!,bcc];have s:=(List.getElem?_eq_some_iff.1 t).1;by_cases o:j=i
 .subst o;rw[G? rfl,G? s,t];simp[n]
 .rw[F! o];cases d:m[i]? with
  |none=>rfl
  |some y=>
   have u:(y.1==k)=false:=by
    rw[Q?];intro e;have r:(m.map (·.1))[i]? =C! k:=by rw[q!,d];simp[e]
    have h:(m.map (·.1))[j]? =C! k:=by rw[q!,t];simp[n]
    exact o<|(maR (by simpa using s) c).1<|h.trans r.symm
   simp[show¬y.1=k from by simpa using u]
theorem Vh(h:∀x∈m,(x.1==k)=H!):dB m k=m:=List.filter_eq_self.2 (λx e=>by rw[h x e];rfl)
end
theorem E1{n:Type}{k:Int}:∀{m:KV n} {j:Nat} {x:Int×n},(m.map (·.1)).Nodup->m[j]? =C! x->x.1=k->dB m k=m.eraseIdx j
 |[],j,x,_,t,_=>by simp at t
 |a::m,0,x,o,t,hk=>by
  simp at t;subst t;rw[i?,θ]at o;unfold dB;rw[k?];simp only[hk,mbW,bbU,η,q?,List.eraseIdx_cons_zero];refine List.filter_eq_self.2 λy hy=>?_;have:y.1≠k:=λe=>o.1 nc7;simp[this]
 |a::m,j+1,x,o,t,hk=>by
  simp at t;rw[i?,θ]at o;have s:a.1≠k:=λe=>o.1 (by rw[e,<-hk];exact a!.2 ⟨x,bbp t,rfl⟩);have i:=E1 o.2 t hk;unfold dB at i|-;rw[k?,G?<|by simp[s],i,mdL]
open Classical in
theorem Fy{k:I?}:∀{l:List MapEntry} {j:Nat} {e:MapEntry},(l.map (·.key)).Nodup->l[j]? =C! e->e.key=k->l.filter (λx=>K? (x.key≠k))=l.eraseIdx j
 |[],j,e,_,t,_=>by simp at t
 |a::l,0,e,o,t,hk=>by
  simp at t;subst t;rw[i?,θ]at o;rw[k?,F!<|by simp[hk],List.eraseIdx_cons_zero];refine List.filter_eq_self.2 λy hy=>?_;have:y.key≠k:=λe=>o.1 nc7;simpa using this
 |a::l,j+1,e,o,t,hk=>by
  simp at t;rw[i?,θ]at o;have n:a.key≠k:=λi=>o.1 (by rw[i,<-hk];exact a!.2 ⟨e,bbp t,rfl⟩);rw[k?,G?<|by simpa using n,Fy o.2 t hk,mdL]
theorem map_eraseIdx{e t:Type}(f:e->t):∀(l:List e) (i:Nat),(l.eraseIdx i).map f=(l.map f).eraseIdx i
 |[],_=>rfl
 |_::_,0=>rfl
 |a::l,i+1=>by simp[mdL,map_eraseIdx f l i]
theorem aci(h:bp w b es)(z:P.underlying mty=C! (.map kt et))(r:P.underlying kt=C! (.int .i64))(k:Int)(v:I?):
 ∃c,(Instr.mapUpdate mty (.map<|C! b) (.int .i64 k) v).run P w=.ok () c/\bp c b (bI es k v)/\Only (· =b) w c/\c.heap.size=w.heap.size:=by
 obtain⟨ents,s,t,m,n⟩:=h;let⟨O,hkk⟩:=uV n;rcases findNow_spec (k:=.int .i64 k) (d:=.int .i64) rfl ents.toList 0 O with⟨u,h2⟩|⟨j,e,u,h2,h3⟩
 .have I:∀x∈es,(x.1==k)=false:=by
   exact mbo
  refine⟨{w with heap:=w.heap.setIfInBounds b (.map (ents.push {key:=.int .i64 k,val:=v,born:=s})<|s+1)},?_,⟨_,_,(heap_set t).1,stamped_push m h2,?_⟩,sG w b _ ⟨_,t⟩,N!⟩
  .simp[Instr.mapUpdate,ba6 z,ϵ t,run_checkKey (P:=P) (w:=w) r (k:=.int .i64 k) rfl,run_findKey r u,run_setObj_map _ t,Result.andThen]
  .rw[yg I];simp[n]
 .let⟨x,hx,hxk,S⟩:=ye n j e h2;have E:x.1=k:=maK;have N:=bp.nodup ⟨ents,s,t,m,n⟩;have g:ents[j]? =C! e:=bbz;have A:∀o,ents[j]? =C! o->({o with key:=.int .i64 k,val:=v}:MapEntry).key=o.key:=λo l=>by rw[g]at l;cases l;exact h3.symm
  refine⟨{w with heap:=w.heap.setIfInBounds b (.map (ents.modify j λe=>{e with key:=.int .i64 k,val:=v}) s)},?_,⟨_,_,(heap_set t).1,stamped_modify m _ _ (λ_ _=>rfl) (λo _ l=>A o l),?_⟩,sG w b _ ⟨_,t⟩,N!⟩
  .simp[Instr.mapUpdate,ba6 z,ϵ t,run_checkKey (P:=P) (w:=w) r (k:=.int .i64 k) rfl,run_findKey r u,g,h3,run_keyThatStays (P:=P) (w:=w) (d:=.int .i64) (k:=.int .i64 k) rfl,run_setObj_map _ t,Result.andThen]
  .rw[Fx N hx E,List.map_set,<-n,Array.toList_modify];apply bbo;intro i;rw[q!,bcc,q!,List.getElem?_modify];have q:=(List.getElem?_eq_some_iff.1 h2).1;by_cases f:j=i
   .subst f;rw[h2];simp at q|-;exact q
   .simp[f]
open Classical in
theorem Ue(h:bp w b es)(f:P.underlying mty=C! (.map kt et))(r:P.underlying kt=C! (.int .i64))(k:Int)(O:TypeId):
 ∃s,(Builtin.delete_ #[mty,kt] O #[.map<|C! b,.int .i64 k]).run P w=.ok (.tuple #[]) s/\bp s b (dB es k)/\Only (· =b) w s/\s.heap.size=w.heap.size/\∀ents o,w.heap[b]? =C! (.map ents o)->∃m,s.heap[b]? =C! (.map m o)/\m.toList=ents.toList.filter (λx=>K? (x.key≠.int .i64 k)):=by
 obtain⟨ents,o,t,l,n⟩:=h;let⟨z,hkk⟩:=uV n;rcases findNow_spec (k:=.int .i64 k) (d:=.int .i64) rfl ents.toList 0 z with⟨u,h2⟩|⟨j,e,u,h2,h3⟩
 .have E:∀x∈es,(x.1==k)=false:=by
   exact mbo
  refine⟨{w with heap:=w.heap.setIfInBounds b (.map ents o)},?_,⟨_,_,(heap_set t).1,l,?_⟩,sG w b _ ⟨_,t⟩,N!,λc v i=>?_⟩
  .simp[Builtin.delete_,ba6 f,ϵ t,run_checkKey (P:=P) (w:=w) r (k:=.int .i64 k) rfl,run_findKey r u,run_setObj_map _ t,Result.andThen]
  .rw[Vh E];exact n
  .rw[t]at i;cases i
   refine⟨ents,(heap_set t).1,(List.filter_eq_self.2 λx hx=>?_).symm⟩;simpa using h2 x hx
 .let⟨x,hx,hxk,I⟩:=ye n j e h2;have g:x.1=k:=maK;have A:=bp.nodup ⟨ents,o,t,l,n⟩
  have q:j<ents.size:=by
   have:=(List.getElem?_eq_some_iff.1 h2).1;simpa using this
  have c:(ents.eraseIdxIfInBounds j).toList=ents.toList.eraseIdx j:=by
   unfold Array.eraseIdxIfInBounds;rw[dif_pos q,Array.toList_eraseIdx]
  refine⟨{w with heap:=w.heap.setIfInBounds b (.map (ents.eraseIdxIfInBounds j) o)},?_,⟨_,_,(heap_set t).1,stamped_erase l _,?_⟩,sG w b _ ⟨_,t⟩,N!,λN v i=>?_⟩
  .simp[Builtin.delete_,ba6 f,ϵ t,run_checkKey (P:=P) (w:=w) r (k:=.int .i64 k) rfl,run_findKey r u,run_setObj_map _ t,Result.andThen]
  .rw[E1 A hx g];rw[c,map_eraseIdx,map_eraseIdx,n]
  .rw[t]at i;cases i
   exact⟨_,(heap_set t).1,by rw[c,<-Fy l.2.2 h2 h3]⟩
theorem tW(h:bp w b es)(i:P.underlying mty=C! (.map kt et))(n:TypeId):(Builtin.len_ #[mty] n #[.map<|C! b]).run P w=.ok (.int .i64 es.length) w:=by
 obtain⟨e,s,t,r,o⟩:=h
 have:e.size=es.length:=by
  have:=U! List.length o;simpa using this
 simp[Builtin.len_,ba6 i,ϵ t,Result.andThen,this,goInt]
def gP(w:D!)(r b:Nat)(left:ES):Prop:=
 ∃(t:Array MapEntry) (n o i:Nat) (s:Array Nat),w.heap[b]? =C! (.map t n)/\w.heap[r]? =C! (.mapIter (C! b) o s i)/\(∀x∈t.toList,x.born<o)/\(o<=i/\o<=n)/\
  (t.toList.map (·.born)).Nodup/\(leftOf t s).toList.map (λe=>(e.key,e.val))=left.map (λx=>(Value.int .i64 x.1,x.2))
def A8(w:D!)(r b:Nat)(left:ES)(k:Int)(v:I?):Prop:=
 gP w r b left/\∃(o:Array MapEntry) (t n:Nat) (i:Array Nat) (e:MapEntry),w.heap[b]? =C! (.map o t)/\w.heap[r]? =C! (.mapIter (C! b) n (i.push e.born) t)/\e∈o.toList/\e.key=.int .i64 k/\e.val=v
theorem gP.heap{r:Nat}{left:ES}(h:gP w r b left)(l:w1.heap[r]? =w.heap[r]?)(s:w1.heap[b]? =w.heap[b]?):gP w1 r b left:=by
 obtain⟨o,t,c,e,d,i,n,q⟩:=h;exact⟨o,t,c,e,d,s.trans i,l.trans n,q⟩
theorem gP.lt{r:Nat}{left:ES}(h:gP w r b left):r<w.heap.size/\b<w.heap.size:=by
 obtain⟨n,i,l,o,s,e,t,q⟩:=h;exact⟨(i!.1 t).1,(i!.1 e).1⟩
theorem gP.only{S:Nat->Prop}{r:Nat}{left:ES}(h:gP w r b left)(e:Only S w w1)(o:¬S r)(t:¬S b):gP w1 r b left:=h.heap (e.block r h.lt.1 o)<|e.block b h.lt.2 t
theorem gP.below{r:Nat}{left:ES}(h:gP w r b left)(e:K! w w1):gP w1 r b left:=h.only (S:=λ_=>False) (Only.aP e) id id
theorem A8.heap{r:Nat}{left:ES}{k:Int}{v:I?}(h:A8 w r b left k v)(o:w1.heap[r]? =w.heap[r]?)(t:w1.heap[b]? =w.heap[b]?):A8 w1 r b left k v:=by
 obtain⟨s,n,i,u,c,e,l,d,q⟩:=h;exact⟨s.heap o t,n,i,u,c,e,t.trans l,o.trans d,q⟩
theorem Yu(h:bp w b es)(c:P.underlying mty=C! (.map kt et)):
 ∃t,(Instr.range mty (.map<|C! b)).run P w=.ok (P? w.heap.size) t/\gP t w.heap.size b es/\bp t b es/\K! w t/\t.heap.size=w.heap.size+1:=by
 have d:=h.lt;have r:=λo=>h.below<|(P! w.heap.size w).alloc O? o;obtain⟨i,e,n,s,l⟩:=h;refine⟨w.alloc (.mapIter (C! b) e #[] e),?_,⟨i,e,e,e,#[],((heap_alloc w _).2 b d).trans n,(heap_alloc w _).1,s.1,⟨Y? _,Y? _⟩,s.2.1,?_⟩,r _,(P! _ _).alloc O? _,N!⟩
 .simp[Instr.range,ba6 c,ϵ n,Result.andThen,newObj,Sem.run]
 .rw[<-l];have:leftOf i #[]=i:=Array.filter_eq_self.2 λx _=>N!;rw[this]
theorem Nb{t:Array MapEntry}{o:Array Nat}{e:MapEntry}:(leftOf t<|o.push e.born).toList=(leftOf t o).toList.filter (λx=> !(x.born==e.born)):=by
 unfold leftOf;rw[bbF,bbF,me0];apply bbK;intro x _;rw[Array.contains_push];cases h:(x.born==e.born)<;>simp_all
theorem FA{e t s:Type}(f:e->s)(g:t->s)(p:e->Bool)(q:t->Bool):∀(L:List e) (M:List t),L.map f=M.map g->(∀(i:Nat) (x:e) (y:t),L[i]? =C! x->M[i]? =C! y->p x=q y)->(L.filter p).map f=(M.filter q).map g
 |[],[],_,_=>rfl
 |[],_::_,h,_=>by simp at h
 |_::_,[],h,_=>by simp at h
 |x::L,y::M,h,o=>by
  have r:=o 0 x y rfl rfl;rw[i?,i?]at h;injection h with l d
  have n:=FA f g p q L M d λi a b c u=>o (i+1) a b c u;rw[k?,k?,r];cases q y
  .exact n
  .simp only[t!,i?,l,n]
theorem Vi{r:Nat}{left:ES}(h:gP w r b left)(a4:(left.map (·.1)).Nodup)(C:TypeId):
 (left=[]/\(Instr.next (P? r) H! C).run P w=.ok (.tuple #[H? H!]) w)\/
 ∃k v O,(k,v)∈left/\(Instr.next (P? r) H! C).run P w=.ok (.tuple #[H? C?,.int .i64 k,v]) O/\A8 O r b (dB left k) k v/\Only (· =r) w O/\O.heap.size=w.heap.size:=by
 obtain⟨n,o,d,Q,t,N,q,Y,S,B,u⟩:=h;rcases run_next_at (P:=P) w C r b d Q t n o q N Y S.1 with⟨Z,H⟩|⟨e,m,w1,A,H⟩
 .left
  refine⟨?_,H⟩
  have:left.length=0:=by
   have:=U! List.length u;simpa[Z]using this.symm
  exact y? this
 .right
  have a2:(e.key,e.val)∈left.map (λx=>(Value.int .i64 x.1,x.2)):=by rw[<-u];exact a!.2 ⟨e,m,rfl⟩
  let⟨⟨k,v⟩,a1,K⟩:=a!.1 a2;simp only[baZ]at K;obtain⟨g,M⟩:=K;have a7:r≠b:=by rintro rfl;rw[N]at q;cases q
  have c:w1.heap=w.heap:=by rcases A with rfl|rfl<;>rfl
  have a3:e∈n.toList:=by unfold leftOf at m;rw[bbF]at m;exact(List.mem_filter.1 m).1
  have a8:=(i!.1 q).1
  have F:(setBlock w1 r (.mapIter (C! b) d (t.push e.born) o)).heap[b]? =C! (.map n o):=by
   show(w1.heap.setIfInBounds r _)[b]? =_;rw[c,bb3 a7];exact N
  have W:(setBlock w1 r (.mapIter (C! b) d (t.push e.born) o)).heap[r]? =C! (.mapIter (C! b) d (t.push e.born) o):=by
   show(w1.heap.setIfInBounds r _)[r]? =_;rw[c];simp[a8]
  refine⟨k,v,_,a1,by rw[g,M];exact H,⟨⟨n,o,d,o,t.push e.born,F,W,Y,?_,B,?_⟩,n,o,d,t,e,F,W,a3,g.symm,M.symm⟩,?_,?_⟩
  .exact⟨S.2,S.2⟩
  .rw[Nb];refine FA _ _ _ _ _ _ u λi x y L J=>?_
   have a5:((leftOf n t).toList.map (·.born)).Nodup:=by
    unfold leftOf;rw[bbF];exact B.sublist<|List.filter_sublist.map _
   have X:x.key=.int .i64 y.1:=by
    have:=U! (λl=>l[i]?) u;simp only[q!,L,J,p?]at this;injection this with this;injection this
   let⟨j,E⟩:=List.mem_iff_getElem?.1 m;by_cases R:i=j
   .subst R;rw[L]at E;cases E
    have:y.1=k:=by rw[<-g]at X;injection X with _ h;exact h.symm
    simp[this]
   .have aa:(x.born==e.born)=false:=by
     rw[Q?];intro I;have f:((leftOf n t).toList.map (·.born))[i]? =C! e.born:=by rw[q!,L];simp[I]
     have D:((leftOf n t).toList.map (·.born))[j]? =C! e.born:=by rw[q!,E];rfl
     exact R<|(maR (List.getElem?_eq_some_iff.1 f).1 a5).1<|f.trans D.symm
    have ab:(y.1==k)=false:=by
     rw[Q?];intro I;have f:(left.map (·.1))[i]? =C! k:=by rw[q!,J];simp[I]
     have s:∃z,left[j]? =C! z/\z.1=k:=by
      have:=U! (λl=>l[j]?) u;simp only[q!,E,p?]at this;cases s:left[j]? with
      |none=>rw[s]at this;simp at this
      |some z=>rw[s]at this;simp at this;refine⟨z,rfl,?_⟩;have V:=this.1;rw[<-g]at V;injection V with _ a0;exact a0.symm
     obtain⟨z,s,a9⟩:=s;have D:(left.map (·.1))[j]? =C! k:=by rw[q!,s];simp[a9]
     exact R<|(maR (List.getElem?_eq_some_iff.1 f).1 a4).1<|f.trans D.symm
    rw[aa,ab]
  .refine⟨?_,?_,?_,?_,λi ac a6=>?_⟩
   .rcases A with rfl|rfl<;>rfl
   .rcases A with rfl|rfl<;>rfl
   .rcases A with rfl|rfl<;>rfl
   .show _<=(w1.heap.setIfInBounds r _).size;rw[c];simp
   .show(w1.heap.setIfInBounds r _)[i]? =_;rw[c,bb3<|X? a6]
  .show(w1.heap.setIfInBounds r _).size=_;rw[c];simp
theorem QG{r:Nat}{left:ES}{k:Int}{v:I?}(h:A8 w r b left k v):(Instr.entry<|P? r).run P w=.ok (.tuple #[.int .i64 k,v]) w:=by
 obtain⟨c,s,i,g,f,e,o,u,m,n,l⟩:=h;obtain⟨y,E,j,z,q,t,A,_,_,d,_⟩:=c;rw[o]at t;cases t
 rw[<-n,<-l];exact run_entry_at w r b g f s i e u o m d
open Classical in
theorem Yw{r:Nat}{left:ES}(h:bp w b es)(D:gP w r b left)(W:r≠b)(M:P.underlying mty=C! (.map kt et))(L:P.underlying kt=C! (.int .i64))(k:Int)(C:∀x∈left,x.1≠k)(g:TypeId):
 ∃t,(Builtin.delete_ #[mty,kt] g #[.map<|C! b,.int .i64 k]).run P w=.ok (.tuple #[]) t/\bp t b (dB es k)/\Only (· =b) w t/\gP t r b left/\t.heap.size=w.heap.size:=by
 let⟨t,N,S,d,R,H⟩:=Ue h M L k g;refine⟨t,N,S,d,?_,R⟩;obtain⟨q,n,B,j,f,E,s,A,O,I,l⟩:=D;let⟨v,z,i⟩:=H q n E;refine⟨v,n,B,j,f,z,(d.block r (i!.1 s).1 W).trans s,λx o=>A x<|by rw[i]at o;exact(List.mem_filter.1 o).1,O,by rw[i];exact I.sublist<|List.filter_sublist.map _,?_⟩;rw[<-l];congr 1;unfold leftOf;rw[bbF,bbF,i,me0];apply bbK;intro x o;by_cases c:f.contains x.born=C?
 .simp only[c,bbU,mcY,Bool.and_false]
 .have u:=z! _▸c
  have F:(x.key,x.val)∈left.map (λx=>(Value.int .i64 x.1,x.2)):=by
   rw[<-l];refine a!.2 ⟨x,?_,rfl⟩;unfold leftOf;rw[bbF];exact List.mem_filter.2 ⟨o,by rw[u];rfl⟩
  let⟨y,Y,m⟩:=a!.1 F;simp only[baZ]at m;have:x.key≠.int .i64 k:=by rw[<-m.1];intro e;injection e with _ e;exact C y Y e
  simp only[u,bcz,Bool.and_true,maS];exact b! this
end
section
open Go.RowKit Go.MapKept
open Go.ChangeMaps (setBlock)
section
variable{P:Program}{w:D!}{ops:Array Oper}{rest:List Oper}{o:Oper}{a:Act}{Q:Exit->Act->D!->Prop}{b:Nat}{es:ES}{mty kt et:TypeId}
section
variable(hg:o.guard=L?)
include hg
theorem eD(m x v:Operand)(d:o.op=Op.mapUpdate mty m x v)(r:P.underlying mty=C! (.map kt et))(s:P.underlying kt=C! (.int .i64))(k:Int)(t:I?)(h:bp w b es)
 (l:a.eval m=.map (C! b))(f:a.eval x=A! k)(u:a.eval v=t)(i:∀e,bp e b (bI es k t)->Only (· =b) w e->e.heap.size=w.heap.size->wpList P ops Q rest (a.put o.dst undef) e):wpList P ops Q (o::rest) a w:=by
 refine baH hg λq n=>?_;let⟨e,c,g,y,j⟩:=aci (P:=P) h r s k t;unfold Oper.wp;simp[execOp,d,l,f,u,c,Result.andThen];exact n _ _<|i e g y j
theorem fW(m x:Operand)(l:o.op=Op.call {callee:=Callee.builtin Builtin.delete,args:= #[m,x],argTypes:= #[mty,kt]})(s:P.underlying mty=C! (.map kt et))(n:P.underlying kt=C! (.int .i64))(k:Int)(h:bp w b es)
 (r:a.eval m=.map (C! b))(c:a.eval x=A! k)(t:∀e,bp e b (dB es k)->Only (· =b) w e->e.heap.size=w.heap.size->wpList P ops Q rest (a.put o.dst (.tuple #[])) e):wpList P ops Q (o::rest) a w:=by
 refine baH hg λy i=>?_;let⟨e,d,u,f,g,_⟩:=Ue (P:=P) h s n k o.type;unfold Oper.wp;simp[execOp,l,resolve,invoke,builtin,r,c,d,Result.andThen];exact i _ _<|t e u f g
theorem FC(m x:Operand)(u:o.op=Op.call {callee:=Callee.builtin Builtin.delete,args:= #[m,x],argTypes:= #[mty,kt]})(d:P.underlying mty=C! (.map kt et))(n:P.underlying kt=C! (.int .i64))(k:Int){r:Nat}{left:ES}(h:bp w b es)(s:gP w r b left)(f:r≠b)(l:∀x∈left,x.1≠k)
 (c:a.eval m=.map (C! b))(y:a.eval x=A! k)(t:∀e,bp e b (dB es k)->gP e r b left->Only (· =b) w e->e.heap.size=w.heap.size->wpList P ops Q rest (a.put o.dst (.tuple #[])) e):wpList P ops Q (o::rest) a w:=by
 refine baH hg λE i=>?_;let⟨e,g,v,j,q,z⟩:=Yw (P:=P) h s f d n k l o.type;unfold Oper.wp;simp[execOp,u,resolve,invoke,builtin,c,y,g,Result.andThen];exact i _ _<|t e v q j z
theorem jH(m:Operand)(r:o.op=Op.range mty m)(n:P.underlying mty=C! (.map kt et))(h:bp w b es)
 (s:a.eval m=.map (C! b))(t:∀e,gP e w.heap.size b es->bp e b es->K! w e->e.heap.size=w.heap.size+1->wpList P ops Q rest (a.put o.dst<|P? w.heap.size) e):wpList P ops Q (o::rest) a w:=by
 refine baH hg λg i=>?_;let⟨e,l,d,c,u,f⟩:=Yu (P:=P) h n;unfold Oper.wp;simp[execOp,r,s,l,Result.andThen];exact i _ _<|t e d c u f
theorem kF(l:Operand)(s:o.op=Op.next l H!){r:Nat}{left:ES}(h:gP w r b left)(f:(left.map (·.1)).Nodup)(n:a.eval l=P? r)
 (c:left=[]->wpList P ops Q rest (a.put o.dst (.tuple #[H? H!])) w)
 (u:∀k v e,(k,v)∈left->A8 e r b (dB left k) k v->Only (· =r) w e->e.heap.size=w.heap.size->wpList P ops Q rest (a.put o.dst (.tuple #[H? C?,A! k,v])) e):wpList P ops Q (o::rest) a w:=by
 refine baH hg λq i=>?_;unfold Oper.wp;rcases Vi (P:=P) h f o.type with⟨d,t⟩|⟨k,v,e,m,t,g,y,j⟩
 .simp[execOp,s,n,t,Result.andThen];exact i _ _<|c d
 .simp[execOp,s,n,t,Result.andThen];exact i _ _<|u k v e m g y j
theorem iD(e:Operand)(s:o.op=Op.entry e){r:Nat}{left:ES}{k:Int}{v:I?}(h:A8 w r b left k v)(n:a.eval e=P? r)
 (t:wpList P ops Q rest (a.put o.dst (.tuple #[A! k,v])) w):wpList P ops Q (o::rest) a w:=by
 refine baH hg λd i=>?_;have l:=QG (P:=P) h;unfold Oper.wp;simp[execOp,s,n,l,Result.andThen];exact i _ _ t
end
def E2(w:D!)(b:Nat)(k n:Int):Prop:=∃(t:Array MapEntry) (i j:Nat) (e:MapEntry),w.heap[b]? =C! (.map t i)/\t.toList[j]? =C! e/\e.key=A! k/\(e.born:Int)=n
theorem Vj{n:Type}{m:KV n}{j:Nat}{x:Int×n}(s:(m.map (·.1)).Nodup)(t:m[j]? =C! x):bI m x.1 x.2=m:=by
 rw[Fx s t rfl];apply bbo;intro i;rw[bcc];by_cases e:j=i
 .subst e;rw[G? rfl,G? (List.getElem?_eq_some_iff.1 t).1,t]
 .rw[F! e]
theorem Vk(h:bp w b es)(q:P.underlying mty=C! (.map kt et))(l:P.underlying kt=C! (.int .i64))(k:Int)(z:I?)(S:(zeroValue et).run P w=.ok z w):
 ∃r A,(Instr.mapEntry mty (.map<|C! b)<|A! k).run P w=.ok (.tuple #[(bt es k).getD z,A! A]) r/\bp r b (bI es k<|(bt es k).getD z)/\Only (· =b) w r/\r.heap.size=w.heap.size/\E2 r b k A:=by
 obtain⟨ents,n,t,m,s⟩:=h;let⟨I,hkk⟩:=uV s;rcases findNow_spec (k:=A! k) (d:=.int .i64) rfl ents.toList 0 I with⟨u,h2⟩|⟨j,e,u,h2,h3⟩
 .have hn:∀x∈es,(x.1==k)=false:=by
   exact mbo
  have c:bt es k=none:=nc3;rw[c];refine⟨{w with heap:=w.heap.setIfInBounds b (.map (ents.push {key:=A! k,val:=z,born:=n})<|n+1)},(n:Int),?_,⟨_,_,(heap_set t).1,stamped_push m h2,?_⟩,sG w b _ ⟨_,t⟩,N!,_,_,ents.size,{key:=A! k,val:=z,born:=n},(heap_set t).1,N!,rfl,rfl⟩
  .simp[Instr.mapEntry,ba6 q,ϵ t,run_checkKey (P:=P) (w:=w) l (k:=A! k) rfl,run_findKey l u,S,run_setObj_map _ t,Result.andThen,goInt]
  .rw[yg hn];simp[s]
 .let⟨x,hx,hxk,O⟩:=ye s j e h2;have f:x.1=k:=maK;have E:=bp.nodup ⟨ents,n,t,m,s⟩;have c:=BM E (bbp hx) f;have v:ents[j]? =C! e:=bbz
  have N:(ents.modify j λe=>{e with key:=A! k})=ents:=by
   apply mdn;intro i;rw[ba8];by_cases g:j=i
   .subst g;rw[G? rfl,v];cases e;simp at h3|-;exact h3.symm
   .rw[F! g]
  rw[c];refine⟨{w with heap:=w.heap.setIfInBounds b (.map ents n)},(e.born:Int),?_,⟨_,_,(heap_set t).1,m,?_⟩,sG w b _ ⟨_,t⟩,N!,_,_,j,e,(heap_set t).1,h2,h3,rfl⟩
  .simp[Instr.mapEntry,ba6 q,ϵ t,run_checkKey (P:=P) (w:=w) l (k:=A! k) rfl,run_findKey l u,v,h3,run_keyThatStays (P:=P) (w:=w) (d:=.int .i64) (k:=A! k) rfl,run_setObj_map _ t,Result.andThen,goInt,N,O]
  .rw[<-f,ba5,Vj E hx];exact s
theorem Nc(h:bp w b es)(k q:Int)(S:E2 w b k q)(v:I?):
 ∃r,(Instr.entryStore mty (.map<|C! b) (A! q) v).run P w=.ok () r/\bp r b (bI es k v)/\Only (· =b) w r/\r.heap.size=w.heap.size:=by
 obtain⟨t,u,n,c,d⟩:=h;obtain⟨L,C,j,e,m,h2,h3,E⟩:=S;rw[n]at m;cases m
 subst E;let⟨x,R,hxk,D⟩:=ye d j e h2;have z:x.1=k:=maK;have N:=bp.nodup ⟨t,u,n,c,d⟩;have g:t[j]? =C! e:=bbz
 have A:t.findIdx? (λx=>(x.born:Int)==(e.born:Int))=C! j:=by
  have s:=(List.getElem?_eq_some_iff.1 h2).1;have I:t[j]'(by simpa using s)=e:=by rw[baD<|by simpa using s]at g;exact baL g
  rw[Array.findIdx?_eq_some_iff_getElem];refine⟨by simpa using s,by rw[I];simp,λi M=>?_⟩;simp only[z!,Q?];intro l;have O:i<t.toList.length:=B!;have l:(t.toList[i].born:Int)=(e.born:Int):=by simpa using l
  have y:(t.toList.map (·.born))[i]? =C! e.born:=by rw[q!,ο O];simp only[p?];congr 1;exact Int.ofNat.inj l
  have H:(t.toList.map (·.born))[j]? =C! e.born:=by rw[q!,h2];rfl
  have:=(maR (List.getElem?_eq_some_iff.1 y).1 c.2.1).1<|y.trans H.symm;omega
 refine⟨{w with heap:=w.heap.setIfInBounds b (.map (t.modify j λe=>{e with val:=v}) u)},?_,⟨_,_,(heap_set n).1,stamped_modify c _ _ (λ_ _=>rfl) (λ_ _ _=>rfl),?_⟩,sG w b _ ⟨_,n⟩,N!⟩
 .simp[Instr.entryStore,ϵ n,asInt,asIntOf,A,run_setObj_map _ n,Result.andThen]
 .rw[Fx N R z,List.map_set,<-d,Array.toList_modify];apply bbo;intro i;rw[q!,bcc,q!,List.getElem?_modify];have s:=(List.getElem?_eq_some_iff.1 h2).1;by_cases f:j=i
  .subst f;rw[h2];simp at s|-;exact⟨s,h3⟩
  .simp[f]
theorem EK(r:o.guard=L?)(m x:Operand)(c:o.op=Op.mapEntry mty m x)(l:P.underlying mty=C! (.map kt et))(s:P.underlying kt=C! (.int .i64))(k:Int)(z:I?)(g:(zeroValue et).run P w=.ok z w)(h:bp w b es)
 (d:a.eval m=.map (C! b))(f:a.eval x=A! k)(i:∀e t,bp e b (bI es k<|(bt es k).getD z)->Only (· =b) w e->e.heap.size=w.heap.size->E2 e b k t->wpList P ops Q rest (a.put o.dst (.tuple #[(bt es k).getD z,A! t])) e):wpList P ops Q (o::rest) a w:=by
 refine baH r λE n=>?_;let⟨e,t,u,y,v,j,q⟩:=Vk (P:=P) h l s k z g;unfold Oper.wp;simp[execOp,c,d,f,u,Result.andThen];exact n _ _<|i e t y v j q
theorem BQ(r:o.guard=L?)(m x v:Operand)(d:o.op=Op.entryStore mty m x v)(k t:Int)(i:I?)(h:bp w b es)(u:E2 w b k t)
 (l:a.eval m=.map (C! b))(g:a.eval x=A! t)(f:a.eval v=i)(n:∀e,bp e b (bI es k i)->Only (· =b) w e->e.heap.size=w.heap.size->wpList P ops Q rest (a.put o.dst undef) e):wpList P ops Q (o::rest) a w:=by
 refine baH r λz s=>?_;let⟨e,c,y,j,q⟩:=Nc (P:=P) (mty:=mty) h k t u i;unfold Oper.wp;simp[execOp,d,l,g,f,c,Result.andThen];exact s _ _<|n e y j q
end
end
theorem eX(x:Nat)(b:UInt8)(h:x<16777216):zF (x:Int) b=((x*256+b.toNat:Nat):Int):=by
 unfold zF;have t:=b.toNat_lt
 have e:wrap64 ((x:Int)*256)=((x*256:Nat):Int):=by
  rw[bby _ ⟨B!,B!⟩];omega
 rw[e,A6 _ _ B! B!];congr 1;rw[show x*256=x<<<8 by rw[Nat.shiftLeft_eq],Nat.shiftLeft_add_eq_or_of_lt t]
theorem mV(l:List UInt8):(bytesOf l).data.toList=l:=by simp[bytesOf]
structure Bh(l:aZ):Prop where
 iO:l.iO=0\/(128<=l.iO/\l.iO<=1500)
 cW:l.cW=0\/(128<=l.cW/\l.cW<=1500)
 m0:0<=l.aH
 m1:l.aH<=4294967295
 dh:l.dh.size<=20
 n0:0<=l.num
 n1:l.num<=65535
theorem Rn{l:aZ}(h:jL l=C?):Bh l:=by
 simp only[jL,gZ,k!,bae,z?]at h;obtain⟨⟨⟨⟨⟨⟨e,t⟩,o⟩,i⟩,n⟩,s⟩,r⟩:=h;exact⟨e,t,o,i,n,s,r⟩
theorem aeY{l:aZ}(h:Bh l):jL l=true:=by
 simp only[jL,gZ,k!,bae,z?];exact⟨⟨⟨⟨⟨⟨h.iO,h.cW⟩,h.m0⟩,h.m1⟩,h.dh⟩,h.n0⟩,h.n1⟩
section
section
variable{P:Program}{ops:Array Oper}{Q:Exit->Act->D!->Prop}{S:D!->Prop}
def wpAnyS(P:Program)(ops:Array Oper)(Q:Exit->Act->D!->Prop)(S:D!->Prop)(L:Nat):Nat->Array Bool->Act->D!->Prop
 |0,e,a,w=>Region.ready .any ops e=[]/\Q .normal a w
 |n+1,e,a,w=>
  (Region.ready .any ops e=[]->Q .normal a w)/\
  ∀i∈Region.ready .any ops e,wpOp P ops Q i (λo t=>((e.setIfInBounds i C?).getD L H!=H!->S t)/\wpAnyS P ops Q S L n (e.setIfInBounds i C?) o t) a w
theorem Gj{L:Nat}:∀(e:Nat) (t:Array Bool) (a:Act) (w:D!),wpAnyS P ops Q S L e t a w->wpAny P .any ops Q e t a w
 |0,_,_,_,h=>h
 |e+1,_,_,_,h=>⟨h.1,λi s=>bbI (λo r n=>Gj e _ o r n.2)<|h.2 i s⟩
theorem Gl{o:Array Bool}{i:Nat}(e:o.getD i H!=C?)(n:o.getD i C?=H!):False:=by
 rcases Nat.lt_or_ge i o.size with t|t
 .simp[t]at n e;rw[n]at e;cases e
 .simp[Array.getElem?_eq_none t]at e
theorem Ry{L i:Nat}(h:Region.waitsFor .any ops L i=C?){o:Array Bool}(d:L∈Region.ready .any ops o):o.getD i H!=true:=by
 obtain⟨c,l,e,r,s,rfl⟩:=Region.waitsFor_spec h;let⟨_,u,t,n⟩:=mem_ready.1 d;rw[l]at t;cases t
 exact n e r s
theorem wpAnyS_first{L i:Nat}{l:Oper}{v:I?}{T:D!->Prop}(O:i≠L)(z:(Region.waitsFor .any ops L i=C?/\∀w,S w->T w)\/(∀w,T w))(A:ops[i]? =C! l)(Y:∀(j:Nat) (o:Oper) d b,ops[j]? =C! o->o.op≠.select d b)
 (a1:∀c a w,Q (.panic c) (a.put l.dst v) w->Q (.panic c) a w):
 ∀(u:Nat) (t:Array Bool) (a:Act) (w:D!),
  (∀j s,ops[j]? =C! s->j≠i->t.getD j C?=H!->(∀e∈s.after,Region.binds .any e=C?->e.on≠i)->l.apart ops s=C?)->
  i∈Region.ready .any ops t->YieldsIf P ops T l v a->T w->(Region.waitsFor .any ops L i=C?->t.getD L H!=H!)->(t.getD L H!=H!->S w)->
  wpAnyS P ops Q S L u (t.setIfInBounds i C?) (a.put l.dst v) w->wpAnyS P ops Q S L (u+1) t a w:=by
 intro u
 induction u with
 |zero=>
  intro t a w _ f g E _ q H;refine⟨λh=>absurd f<|by rw[h];simp,λj m=>?_⟩;by_cases n:j=i
  .subst n;exact g.wpOp A E ⟨λh=>q<|by rwa[bcw H! O]at h,H⟩
  .exact absurd (ready_mono m n) (by rw[H.1];simp)
 |succ u ac=>
  intro t a w F f g E a0 q H;refine⟨λh=>absurd f<|by rw[h];simp,λj m=>?_⟩;by_cases n:j=i
  .subst n;exact g.wpOp A E ⟨λh=>q<|by rwa[bcw H! O]at h,H⟩
  .let⟨W,s,I,a2⟩:=mem_ready.1 m;have N:=(mem_ready.1 f).1
   have ab:∀e∈s.after,Region.binds .any e=C?->e.on≠i:=λe a5 a3 a6=>by
    have D:=a2 e a5 a3;rw[a6]at D;exact Gl D N
   have a7:Region.waitsFor .any ops L i=C?->j≠L:=λr e=>by
    subst e;exact Gl (Ry r m) N
   have X:=wpOp_putIf I (F j s I n W ab) (λd b=>Y i l d b A) (λd b=>Y j s d b I) a1 g<|H.2 j<|ready_mono m n;have a4:(t.setIfInBounds i C?).setIfInBounds j C?=(t.setIfInBounds j C?).setIfInBounds i true:=Array.setIfInBounds_comm _ _<|X? n;refine bbI (λK ad J=>?_) X;obtain⟨Z,M,C⟩:=J;rw[a4]at M C;have y:=λh=>M (by rwa[bcw H! O]);have R:Region.waitsFor .any ops L i=C?->(t.setIfInBounds j C?).getD L H!=false:=λr=>by rw[bcw H!<|a7 r];exact a0 r
   refine⟨y,ac (t.setIfInBounds j C?) K ad ?_ (ready_mono f<|X? n) Z ?_ R y C⟩
   .intro k ok a8 a9 B aa;refine F k ok a8 a9 ?_ aa;by_cases G:j=k
    .subst G;exact W
    .rw[bcw C? G]at B;exact B
   .rcases z with⟨r,V⟩|z
    .exact V _<|y<|R r
    .exact z _
def ub(ops:Array Oper)(L:Nat):List (Nat×Nat)->Array Bool->Bool
 |[],e=>(Region.ready .any ops e).isEmpty
 |(i,0)::r,e=>(Region.ready .any ops e==[i])&&(if i==L then r.isEmpty else !r.isEmpty)&&ub ops L r (e.setIfInBounds i C?)
 |(i,k+1)::r,e=>Region.free .any ops e i&&(Region.ready .any ops e).contains i&&i !=L&&(!(e.getD L H!))&&(if k==0 then Region.waitsFor .any ops L i else k==1)&&ub ops L r (e.setIfInBounds i C?)
def Od(S:D!->Prop):Nat->D!->Prop
 |0=>S
 |_=>λ_=>True
def fH(P:Program)(ops:Array Oper)(S:D!->Prop)(Q:Exit->Act->D!->Prop):List (Oper×Nat)->Act->D!->Prop
 |[],a,w=>Q .normal a w
 |(o,k+1)::r,a,w=>∃v,YieldsIf P ops (Od S k) o v a/\fH P ops S Q r (a.put o.dst v) w
 |(o,0)::r,a,w=>∀K:Act->D!->Prop,E! (∀t e,(r≠[]->S e)->fH P ops S Q r t e->K t e)->wpList P ops (yM Q K) [o] a w
def oR(ops:Array Oper)(e:List<|Nat×Nat):List<|Oper×Nat:=e.filterMap λx=>(ops[x.1]?).map λo=>(o,x.2)
theorem sY{i k:Nat}{r:List (Nat×Nat)}(e:i<ops.size):oR ops ((i,k)::r)=(ops[i],k)::oR ops r:=by
 unfold oR;rw[ύ];simp only[baD e,p?]
theorem wL{L:Nat}(z:Region.noSelect ops=C?)(y:∀c d v a w,Q (.panic c) (Act.put a d v) w->Q (.panic c) a w):∀(m:List<|Nat×Nat) (e:Array Bool) (a:Act) (w:D!),
 (m.all λx=>K? (x.1<ops.size))=C?->ub ops L m e=C?->(m≠[]->S w)->fH P ops S Q (oR ops m) a w->wpAnyS P ops Q S L m.length e a w
 |[],e,a,w,_,t,_,h=>⟨by simpa[ub]using t,h⟩
 |(i,k+1)::r,e,a,w,s,t,E,h=>by
  simp only[mc6,k!,z?]at s;obtain⟨l,u⟩:=s;rw[sY l]at h;simp only[ub,k!,ϒ,ne_eq,bbv]at t;obtain⟨⟨⟨⟨⟨n,h2⟩,g⟩,F⟩,G⟩,W⟩:=t;simp only[fH]at h;obtain⟨v,X,h⟩:=h;have b:=E N!;have N:=baD l
  have A:(Region.waitsFor .any ops L i=C?/\∀w,S w->Od S k w)\/(∀w,Od S k w):=by
   cases k with
   |zero=>exact .inl ⟨by simpa using G,λ_ h=>h⟩
   |succ k=>exact .inr λ_=>trivial
  have Y:Od S k w:=by rcases A with⟨_,h⟩|h;exact h _ b;exact h _
  exact wpAnyS_first (T:=Od S k) g A N (Region.noSelect_spec z) (λc a w=>y c _ _ a w) r.length e a w (Region.free_spec N n) bbz X Y (λ_=>F) (λ_=>b)
   (wL z y r _ _ w u W (λ_=>b) h)
 |(i,0)::r,e,a,w,s,t,E,h=>by
  simp only[mc6,k!,z?]at s;obtain⟨l,u⟩:=s;rw[sY l]at h;simp only[ub,k!,κ]at t;obtain⟨⟨n,h2⟩,g⟩:=t;simp only[fH]at h;refine⟨λM=>absurd M<|by rw[n];simp,λj O=>?_⟩;rw[n,j?]at O;subst O
  have H:∀o,(oR ops r≠[]->S o)->r≠[]->S o:=λo B q=>B (by
   cases r with
   |nil=>exact absurd rfl q
   |cons x r=>
    obtain⟨J,Z⟩:=x;simp only[mc6,k!,z?]at u;rw[sY u.1];simp)
  refine Cm (baD l)<|h _<|A? λC o R K=>⟨λq=>?_,wL z y r _ C o u g (H o R) K⟩;by_cases I:j=L
  .subst I;have V:=(mem_ready.1<|show j∈Region.ready .any ops e by rw[n];simp).1;rcases Nat.lt_or_ge j e.size with f|f
   .simp[f]at q
   .simp[Array.getElem?_eq_none f]at V
  .by_cases D:r=[]
   .subst D;rw[F!<|by simpa using I]at h2;cases h2
   .exact H o R D
theorem V8{m:Nat}{a:Act}{w:D!}{l:List Oper}(S:D!->Prop)(L:Nat)(e:List<|Nat×Nat)(r:P.follows .mixedOrders=C?)(u:Region.noSelect l.toArray=C?)(t:e.length=l.toArray.size)
 (s:(e.all λx=>K? (x.1<l.toArray.size))=C?)
 (o:ub l.toArray L e (Array.replicate l.toArray.size H!)=C?)(n:S w.drew)(i:∀c d v a w,Q (.panic c) (Act.put a d v) w->Q (.panic c) a w)
 (h:fH P l.toArray S Q (oR l.toArray e) a w.drew):(Code.region m l.toArray C?).wp P Q a w:=by
 apply wp_region_any r;rw[<-t];have:=wL (P:=P) u i e (Array.replicate l.toArray.size H!) a w.drew s o (λ_=>n) h;rw[<-t]at this;exact Gj _ _ _ _ this
section
variable{o:Oper}{r:List (Oper×Nat)}{a:Act}{w:D!}
theorem Zs(v:I?)(t:Region.wanted o (yielded ops a.tmps)=C?)
 (e:∀w,S w->(execOp a.eval o).run P w=.ok (.value v) w)(h:fH P ops S Q r (a.put o.dst v) w):fH P ops S Q ((o,1)::r) a w:=by
 unfold fH;exact⟨v,.inl ⟨t,e⟩,h⟩
theorem Zt(v:I?)(t:Region.wanted o (yielded ops a.tmps)=C?)
 (e:∀w,(execOp a.eval o).run P w=.ok (.value v) w)(h:fH P ops S Q r (a.put o.dst v) w):fH P ops S Q ((o,2)::r) a w:=by
 unfold fH;exact⟨v,.inl ⟨t,λw _=>e w⟩,h⟩
theorem Zu{k:Nat}(e:Region.wanted o (yielded ops a.tmps)=H!)
 (h:fH P ops S Q r (a.put o.dst undef) w):fH P ops S Q ((o,k+1)::r) a w:=by
 unfold fH;exact⟨undef,.inr ⟨e,rfl⟩,h⟩
end
theorem oh{o:Oper}{x:Oper×Nat}{r:List (Oper×Nat)}{a:Act}{w:D!}
 (h:∀K:Act->D!->Prop,E! (∀t e,S e->fH P ops S Q (x::r) t e->K t e)->wpList P ops (yM Q K) [o] a w):fH P ops S Q ((o,0)::x::r) a w:=by
 unfold fH;exact λK s=>h K<|A? λt e i n=>s t e (λ_=>i) n
theorem iz{o:Oper}{a:Act}{w:D!}
 (h:∀K:Act->D!->Prop,E! (∀e t,Q .normal e t->K e t)->wpList P ops (yM Q K) [o] a w):fH P ops S Q [(o,0)] a w:=by
 unfold fH;exact λK n=>h K<|A? λe t i=>n e t (λs=>absurd rfl s) i
theorem yS{id:Nat}{a:Act}{w:D!}{l:List Oper}(S:D!->Prop)(L:Nat)(sc:List<|Nat×Nat)(hS:S w.drew)(h:fH P l.toArray S Q (oR l.toArray sc) a w.drew)
 (hm:P.follows .mixedOrders=true:=by kernel_rfl)(hs:Region.noSelect l.toArray=true:=by kernel_rfl)(hn:sc.length=l.toArray.size:=by rfl)(hi:(sc.all λx=>K? (x.1<l.toArray.size))=true:=by kernel_rfl)
 (hB:ub l.toArray L sc (Array.replicate l.toArray.size H!)=true:=by kernel_rfl)(hQ:∀c d v a w,Q (.panic c) (Act.put a d v) w->Q (.panic c) a w:=by exact λ_ d _ _ _ h=>bav):
 (Code.region id l.toArray C?).wp P Q a w:=V8 S L sc hm hs hn hi hB hS hQ h
end
theorem tL{P Q:Prop}(k:Q)(h:Q->P:=by
 intro kk
 (try simp only[oR,ύ,ϟ,baM,baO,baA,p?])
 repeat(first|(refine' Zs _ ba0 (λwS hS=>?_) ?_;rotate_left;(focus(iterate 9 (try(have k9:=And.left hS;replace hS:=And.right hS)));go_simp;first|done|rfl);(try simp only[Act.put,υ,ϑ,ϊ]))|(refine' Zt _ ba0 (λwS=>?_) ?_;rotate_left;(focus(go_simp;first|done|rfl));(try simp only[Act.put,υ,ϑ,ϊ]))|(apply Zu ba0;try simp only[Act.put,υ,ϑ,ϊ]))
 exact kk):P:=h k
end
structure ia(q:bh):Prop where
 s0:1<=q.size
 s1:q.size<=1500
 q0:0<=q.seq
 q1:q.seq<gh q.short
 pk:∀s∈q.bB,1<=s.size/\s.size<=1500
 ln:(q.lanes.map (·.1)).Nodup
 on:(q.opn.map (·.1)).Nodup
theorem vG(s:Bool):4096<=gh s/\gh s<=16777216:=by unfold gh;split<;>omega
theorem Ed(e:Nat)(t o:Int)(r:1<=e):∀(n i:Nat) (l:List UInt8) (k:Nat),l.length<=k*e->(cutFrom e t o n i l).length<=k
 |0,_,_,_,_=>S! _
 |n+1,i,l,k,h=>by
  unfold cutFrom;split
  .exact S! _
  .rename_i s;cases k with
   |zero=>exfalso;apply s;exact y? B!
   |succ k=>
    rw[V!];have:=Ed e t o r n (i+1) (l.drop e) k (by rw[Φ];rw[ώ]at h;omega);omega
theorem Gw(s:ByteArray)(e:Nat)(t:Int)(i:Bool)(o:1<=e)(h:s.size<=64*e):(yA s e t i).length<=64:=
 Ed e _ t o _ _ _ 64 (by rw[bK];exact h)
theorem yY(s:ByteArray)(n:Nat)(o:Int)(i:Bool)(h:1<=s.size):∃f t,yA s n o i=f::t:=by
 unfold yA cutFrom;rw[F! (λe=>by have:=bK s;rw[e]at this;simp at this;omega)];exact⟨_,_,rfl⟩
def rA(q:bh):Nat:=max q.size.toNat<|((q.bB.headD ⟨#[]⟩).size+63)/64
theorem Ee{q:bh}(h:ia q):1<=rA q/\rA q<=1500/\(q.bB.headD ⟨#[]⟩).size<=64*rA q:=by
 have t:=h.s0;have o:=h.s1
 have i:(q.bB.headD ⟨#[]⟩).size<=1500:=by
  cases e:q.bB with
  |nil=>exact S! _
  |cons s r=>exact(h.pk s<|by rw[e];exact x!).2
 unfold rA;omega
theorem Bl{l:List Int}(i:l.Pairwise (· <=·))(o:l.Nodup){k:Int}(t:k∈l):∃r,l.filter (λx=>K? (k<=x))=k::r:=by
 induction l with
 |nil=>cases t
 |cons a l n=>
  rw[List.pairwise_cons]at i;rw[θ]at o;rw[k?];rcases n!.1 t with rfl|t
  .rw[G? N!];exact⟨_,rfl⟩
  .have s:=i.1 k t;have d:a≠k:=λe=>o.1 (by rw[e];exact t);rw[F! p!];exact n i.2 o.2 t
theorem AF{e:Type}(m:KV e):(rI m).Pairwise (· <=·):=by
 have:=List.pairwise_mergeSort (le:=λ(a b:Int)=>K? (a<=b)) (λa b c t o=>by simp at*;omega) (λa b=>p!)<|m.map (·.1);exact this.imp N!
theorem mY{q:bh}{k:Int}(h:ia q)(o:au q.lanes k=C?)(e:(aL q k).drains=H!):∃r,jN q k=k::r:=by
 have n:((q.lanes.filter λx=> !x.2.drains).map (·.1)).Nodup:=h.ln.sublist<|List.filter_sublist.map _
 have i:k∈rI (q.lanes.filter λx=> !x.2.drains):=by
  rw[qh,dI,a!];have t:=mr o jB;have:=(eA h.ln).1 t;refine⟨_,List.mem_filter.2 ⟨this,?_⟩,rfl⟩;show(!(aL q k).drains)=C?;rw[e];rfl
 let⟨r,s⟩:=Bl (AF _) (BO n) i;unfold jN;dsimp only;rw[s];exact⟨_,rfl⟩
theorem oT{q:bh}{k x:Int}(e:x∈jN q k):au q.lanes x=true:=by
 unfold jN at e;dsimp only at e
 have:x∈rI (q.lanes.filter λx=> !x.2.drains):=by
  rcases ό.1 e with h|h<;>exact(List.mem_filter.1 h).1
 rw[qh,dI,a!]at this;obtain⟨y,t,rfl⟩:=this;exact dI.2<|a!.2 ⟨y,(List.mem_filter.1 t).1,rfl⟩
theorem Lz{t:List Int}{n:Int}{o:KV fk}{x:bF×Nat}(r:t≠[])(h:∀k∈t,au o k=C?):(fC t n o x).map (·.1)=o.map (·.1)/\∀k,au (fC t n o x) k=au o k:=by
 have s:=ϛ.2 r
 have i:au o (t.getD (x.2%t.length) 0)=true:=by
  apply h;rw[ba1,ο<|x? _ s];exact l! _
 unfold fC;dsimp only;refine⟨by rw[Fu,G? i],λk=>?_⟩;rw[lq];by_cases e:k=t.getD (x.2%t.length) 0
 .rw[e,i];simp
 .rw[W? e];rfl
theorem mZ{t:List Int}{n:Int}(s:t≠[]):∀(o:List<|bF×Nat) (e:KV fk),(∀k∈t,au e k=C?)->((o.foldl (fC t n) e).map (·.1)=e.map (·.1))/\∀k,au (o.foldl (fC t n) e) k=au e k
 |[],e,_=>⟨rfl,λ_=>rfl⟩
 |x::o,e,h=>by
  obtain⟨r,i⟩:=Lz (n:=n) (x:=x) s h;obtain⟨l,d⟩:=mZ s o (fC t n e x) λk c=>by rw[i];exact h k c
  exact⟨l.trans r,λk=>(d k).trans<|i k⟩
theorem ia.acO{q:bh}{k:Int}(h:ia q)(t:au q.lanes k=C?)(e:(aL q k).drains=H!):ia<|pY q k:=by
 let⟨r,o⟩:=mY h t e;have l:=vG q.short;refine⟨h.s0,h.s1,bb1 _ B!,maI _ B!,λs i=>h.pk s<|List.mem_of_mem_tail i,?_,fL h.on _ _⟩;show((List.foldl (fC (jN q k) q.cut) q.lanes _).map (·.1)).Nodup;rw[(mZ (by rw[o];simp) _ q.lanes<|λx n=>oT n).1];exact h.ln
theorem I3{t:List Int}{n:Int}{e:KV fk}{x:bF×Nat}{k:Int}(h:((bt e k).getD jB).waits≠[]):((bt (fC t n e x) k).getD jB).waits≠[]:=by
 unfold fC;dsimp only;rw[iQ];split
 .simp
 .exact h
theorem AJ{o:List Int}{n:Int}{k:Int}:∀(e:List<|bF×Nat) (t:KV fk),((bt t k).getD jB).waits≠[]->((bt (e.foldl (fC o n) t) k).getD jB).waits≠[]
 |[],_,h=>h
 |x::e,t,h=>AJ e _<|I3 h
section
variable{q:bh}
theorem yZ{k:Int}(h:ia q)(i:au q.lanes k=C?)(t:(aL q k).drains=H!)(n:q.bB≠[]):(aL (pY q k) k).waits≠[]:=by
 let⟨r,l⟩:=mY h i t;let⟨s,u,e⟩:=List.exists_cons_of_ne_nil n;have d:=(h.pk s<|by rw[e];exact x!).1;unfold pY aL;dsimp only;rw[e];simp only[bbj];let⟨f,c,o⟩:=yY s (max q.size.toNat<|(s.size+63)/64) q.seq q.short d;rw[o,List.zipIdx_cons,r!];apply AJ _ _;unfold fC;dsimp only;rw[l];simp[iQ]
theorem ia.RF(h:ia q)(k:Int):ia (bY q k).1:=by
 unfold bY;split
 .exact h
 .rename_i t;split
  .exact h
  .split
   .exact h
   .rename_i o;exact h.acO (by cases e:au q.lanes k with|true=>rfl|false=>exact absurd e t) (by cases e:(aL q k).drains with|false=>rfl|true=>exact absurd (.inl e) o)
theorem ia.lane(h:ia q)(k:Int)(l:fk):ia {q with lanes:=bI q.lanes k l}:=⟨h.s0,h.s1,h.q0,h.q1,h.pk,fL h.ln _ _,h.on⟩
theorem ia.take(h:ia q)(k:Int):ia (iR q k).1:=by
 have e:=h.RF k;unfold iR;dsimp only;split
 .exact e
 .refine⟨e.s0,e.s1,e.q0,e.q1,e.pk,fL e.ln _ _,?_⟩;dsimp only;split
  .exact fM (fL e.on _ _) _
  .exact fL e.on _ _
theorem ia.add(h:ia q)(k:Int):ia (Bd q k).1:=by
 unfold Bd;split
 .exact h
 .split
  .exact h
  .exact h.lane k _
theorem ia.drain(h:ia q)(k:Int):ia (pG q k).1:=by
 unfold pG;split
 .exact h.lane k _
 .exact h
theorem ia.drop(h:ia q)(k:Int):ia (vk q k).1:=by
 unfold vk;split
 .exact h
 .split
  .exact h
  .exact⟨h.s0,h.s1,h.q0,h.q1,h.pk,fM h.ln _,h.on⟩
theorem ia.RG(h:ia q)(s:ByteArray):ia (ig q s).1:=by
 unfold ig;split
 .exact h
 .rename_i t;split
  .exact h
  .refine⟨h.s0,h.s1,h.q0,h.q1,λx e=>?_,h.ln,h.on⟩;rcases ό.1 e with e|e
   .exact h.pk x e
   .rw[j?]at e;subst e;omega
end
theorem ia.new(t:Int)(e:Bool)(o:1<=t)(i:t<=1500):ia<|yB t e:=by
 have:=vG e;exact⟨o,i,Y! _,by show(0:Int)<gh e;omega,λs n=>(by cases n),baT,baT⟩
