/- Walks and plain laws. -/
import Derived.Test.YtncddkcponjlpaaGreatDoorK12
set_option linter.unusedVariables false
set_option linter.unusedSimpArgs false
set_option maxHeartbeats 0
set_option maxRecDepth 99999
namespace Go.Proofs.YtncddkcponjlpaaGreatDoor
open Go.RowKit Go.Proofs.Tryz
open Go renaming World→D!,Value→I?,Calls→G!,IntKind→ncy
open Go.RowKit renaming Hid→E!
open Decidable renaming decide→K?
open Option renaming some→C!,none→L?
open Bool renaming true→C?,false→H!
open Go.Proofs.Tryz renaming prog→E?
variable{P:Prop}
variable{w w1:D!}{G G1:Nat->Tag}{t:Tag}{b lb hb:Nat}{m m':bh}
theorem Cu{c:Array Oper}{u:List Oper}{o:Oper}{a:Act}{w:D!}{Q:Exit->Act->D!->Prop}(g:o.guard=L?)(s x:Operand)
 (z:o.op=.call {callee:=.builtin .append,args:= #[s,x],argTypes:= #[64,9]})
 (r:Nat)(v:I?)(l:List UInt8)(news:ByteArray)(E:Own w r v l)(O:a.eval s=v)(I:a.eval x=D? news)
 (L:l.length+news.size<=140737488355328)(f:r<=w.heap.size)
 (h:∀d n,Own n r d (l++news.data.toList)->Only (λk=>v.ownBlock=C! k) w n->wpList E? c Q u (a.put o.dst d) n):
 wpList E? c Q (o::u) a w:=by
 let⟨H,y,N,S,R⟩:=bb5 Dk;apply Lib.wpList_append_own_string _ g s x _ _ z r 5 H underlying64 underlying9 y N S R v l.length (Lib.byteCells l) O E news I bao B! f;intro d n A i _;refine h d n ?_ ⟨i.os,i.tape,i.output,i.size,λk j q=>i.block k j<|λe=>q e.symm⟩;have e:Lib.byteCells (l++news.data.toList)=Lib.byteCells l++Lib.strCells news:=nb2;unfold Own;rw[e,X!,show news.data.toList.length=news.size from rfl];exact A
section
theorem Bo(t:Tag)(a b:Int){s:Tag}(e:a≠b){r u:Tag}(h1:aq (t++a::s) u)(h2:aq (t++b::r) u):False:=by
 exact nbY
theorem RO(t:Tag)(a i k:Int)(e:i≠k){u:Tag}(h1:aq (t++[a,i]) u)(h2:aq (t++[a,k]) u):False:=by
 exact nbY
theorem LJ{t:Tag}{a b:Int}{s r:Tag}(o:a≠b):t++a::s≠t++b::r:=λe=>by
 have:=List.append_cancel_left e;simp at this;exact o this.1
theorem oV{t:Tag}{a:Int}{s:Tag}:t++a::s≠t:=λe=>by
 have:=U! List.length e;simp at this
variable{v:I?}{l l':fk}
theorem QX.E8(h:QX w G t b v l){v':I?}(ho:Only (λk=>k=b\/v.ownBlock=C! k) w w1)(hb:aO w1 b 261 #[v',H? l'.drains])(n:jd Jz w1 v' l'.waits)
 (r:∀k,v'.ownBlock=C! k->v.ownBlock=C! k\/(w.heap.size<=k/\k<w1.heap.size)):∃o,wG w1 o t b l'/\Step (aq t) G w o w1:=by
 have hs:Step (λu=>u=t\/u=t++[0]) G w (λk=>if k<w.heap.size then G k else t++[0]) w1:=Step.rule ho (λk _ e=>e.imp (λe=>Ψ)<|λe=>(h.row.2 k e).2) _;refine⟨_,⟨v',hb,(hs.old _ h.blk.lt).trans h.tag,n,λk i=>?_⟩,hs.mono λu s=>?_⟩
 .rcases r k i with e|e
  .have:=h.row.2 k e;exact bbn
  .exact⟨e.2,F! B!⟩
 .rcases s with rfl|rfl
  .exact aq.self _
  .exact aq.app _ _
variable{x:EM}
section
variable(h:cN w G t b x m)
include h
theorem cN.nodup:(m.lanes.map (·.1)).Nodup:=by have:=h.ml.nodup;rw[i9]at this;exact this
theorem cN.uK{k:Int}(e:au m.lanes k=C?):wG w G (t++[4,k]) (x.f k)<|aL m k:=h.lane k _<|(eA h.nodup).1<|mr e _
theorem cN.ne:x.mo≠b/\x.ml≠b/\x.mo≠x.ml/\(∀k,x.v.ownBlock=C! k->k≠b/\k≠x.mo/\k≠x.ml):=by
 refine⟨λe=>?_,λe=>?_,λe=>?_,λk o=>⟨λe=>?_,λe=>?_,λe=>?_⟩⟩
 .have:=h.YY;rw[e,h.tag]at this;exact oV this.symm
 .have:=h.YZ;rw[e,h.tag]at this;exact oV this.symm
 .have:=h.YY;rw[e,h.YZ]at this;exact LJ I! this
 .have:=(h.IG.2 k o).2;rw[e,h.tag]at this;exact oV this.symm
 .have:=(h.IG.2 k o).2;rw[e,h.YY]at this;exact LJ I! this
 .have:=(h.IG.2 k o).2;rw[e,h.YZ]at this;exact LJ I! this
theorem cN.E8{v':I?}(ho:Only (λk=>k=b\/k=x.mo\/k=x.ml\/x.v.ownBlock=C! k) w w1)(hb:aO w1 b 137<|oA {x with v:=v'} m')(f:jd fB w1 v' m'.bB)
 (g:∀k,v'.ownBlock=C! k->x.v.ownBlock=C! k\/(w.heap.size<=k/\k<w1.heap.size))(c:bp w1 x.mo<|dY (λ_ n=>A! n) m'.opn)(d:bp w1 x.ml<|dY (λk _=>ptr<|x.f k) m'.lanes)
 (r:∀k l,(k,l)∈m'.lanes->(k,l)∈m.lanes):∃s,cN w1 s t b {x with v:=v'} m'/\Step (aq t) G w s w1:=by
 have hs:Step (λu=>u=t\/u=t++[2]\/u=t++[3]\/u=t++[1]) G w (λk=>if k<w.heap.size then G k else t++[1]) w1:=
  Step.rule ho (λk _ e=>e.imp (λe=>Ψ)<|λe=>e.imp (λe=>by rw[e,h.YY])<|λe=>e.imp (λe=>by rw[e,h.YZ])<|λe=>(h.IG.2 k e).2) _
 refine⟨_,⟨hb,(hs.old _ h.blk.lt).trans h.tag,⟨f,λk i=>?_⟩,(hs.old _ h.mo.lt).trans h.YY,(hs.old _ h.ml.lt).trans h.YZ,c,d,λk l i=>(h.lane k l<|r k l i).step hs λu o=>?_⟩,hs.mono λu o=>?_⟩
 .rcases g k i with e|e
  .have:=h.IG.2 k e;exact bbn
  .exact⟨e.2,F! B!⟩
 .rintro(rfl|rfl|rfl|rfl)
  .exact eB o
  all_goals exact Bo t _ _ I! o (aq.self _)
 .rcases o with rfl|rfl|rfl|rfl
  .exact aq.self _
  all_goals exact aq.app _ _
theorem cN.LL{k:Int}(d:au m.lanes k=C?)(o:Step (aq<|t++[4,k]) G w G1 w1)(f:wG w1 G1 (t++[4,k]) (x.f k) l'):
 cN w1 G1 t b x {m with lanes:=bI m.lanes k l'}/\Step (aq t) G w G1 w1:=by
 have s:∀a,a≠4->¬aq (t++[4,k]) (t++[a]):=λa c e=>Bo t 4 a (X? c) e<|aq.self _;refine⟨⟨h.blk.step o<|by rw[h.tag];exact eB,(o.old _ h.blk.lt).trans h.tag,h.IG.step o<|s 1 I!,(o.old _ h.mo.lt).trans h.YY,(o.old _ h.ml.lt).trans h.YZ,h.mo.step o<|by rw[h.YY];exact s 2 I!,?_,λi l n=>?_⟩,o.mono λu r=>sR r⟩
 .show bp w1 x.ml (dY _<|bI m.lanes k l');rw[Cw (λk=>ptr<|x.f k) d];exact h.ml.step o (by rw[h.YZ];exact s 3 I!)
 .rcases Cx h.nodup d n with⟨rfl,rfl⟩|⟨e,n⟩
  .exact f
  .exact(h.lane i l n).step o λu r g=>RO t 4 i k e r g
theorem cN.add{k:Int}(z:au m.lanes k=H!)(O:Only (λk=>k=x.ml) w w1){B:Nat}(N:w.heap.size<=B)(g:aO w1 B 261 #[Q!,H? H!])
 (E:bp w1 x.ml<|bI (dY (λk _=>ptr<|x.f k) m.lanes) k<|ptr B):∃r I,cN w1 r t b I {m with lanes:=bI m.lanes k jB}/\Step (aq t) G w r w1:=by
 have n:Step (λu=>u=t++[3]) G w (λb=>if b<w.heap.size then G b else t++[4,k]) w1:=Step.rule O (λk _ e=>by rw[e,h.YZ]) _
 have s:∀c,(k,c)∉m.lanes:=λc q=>by
  have:=dI.2<|a!.2 ⟨_,q,rfl⟩;simp only at this;rw[z]at this;cases this
 have d:∀a,a≠3->t++[a]≠t++[3]:=λa j=>LJ j;refine⟨_,{x with f:=λi=>if i=k then B else x.f i},⟨h.blk.step n<|by rw[h.tag];exact X? oV,(n.old _ h.blk.lt).trans h.tag,h.IG.step n<|d 1 I!,(n.old _ h.mo.lt).trans h.YY,(n.old _ h.ml.lt).trans h.YZ,h.mo.step n<|by rw[h.YY];exact d 2 I!,?_,λi c o=>?_⟩,n.mono λu hu=>mes⟩
 .have e:bI (dY (λk _=>ptr<|x.f k) m.lanes) k (ptr B)=dY (λi _=>ptr<|if i=k then B else x.f i) (bI m.lanes k jB):=by
   rw[<-jK (λi (_:fk)=>ptr<|if i=k then B else x.f i),G? rfl];congr 1;refine A7 λy hy=>?_;rw[F!];intro e;exact s y.2 mbJ
  rw[<-e];exact E
 .change (i,c)∈bI m.lanes k jB at o
  rw[yg (λy hy=>by
   rw[Q?];intro e;exact s y.2 mbJ),ό]at o
  rcases o with o|o
  .have A:i≠k:=λe=>s c (by rw[<-e];exact o);show wG _ _ _ (if i=k then B else x.f i) _;rw[F! A]
   exact(h.lane i c o).step n λu hu e=>by
    rw[show u=t++[3]from e]at hu;exact Bo t _ _ I! hu<|aq.self _
  .simp only[j?,baZ]at o;obtain⟨rfl,rfl⟩:=o;show wG _ _ _ (if i=i then B else x.f i) _;rw[G? rfl];exact⟨Q!,g,F! B!,oy.nil _ _ _ _⟩
theorem cN.look(k:Int):
 (Instr.lookup 135 (.map<|C! x.ml) (A! k) H!).run E? w=.ok (if au m.lanes k then ptr (x.f k)else .pointer L?) w:=
 nQ h.ml underlying135 underlying3 π k
end
end
theorem Oz(n:Int)(w:D!):G! E? 84 #[A! n] w (T! w<|H?<|K? (1<=n)&&K? (n<=1500)):=by
 go_in
 go_wp2_with fail
 all_goals
  go_ret;refine⟨?_,rfl⟩;simp;try omega
theorem ZJ(i:Int)(n:Bool)(w:D!)(G:Nat->Tag)(t:Tag)(u:1<=i/\i<=1500):G! E? 71 #[A! i,H? n] w λe w'=>∃s,e=.returned (.tuple #[ptr s,A! 0])/\∃r,eC w' r t s (yB i n)/\Step (λ_=>False) G w r w':=by
 have q:= @mcW E?;have d:=λw=>Oz i w;rw[show(decide (1<=i)&&K? (i<=1500))=C? from p!]at d;go_in;go_wp2_with fail;apply(d _).mono;rintro e w' ⟨rfl,rfl⟩;go_wp2;go_ret2;have hz1:(w'.alloc (.map #[] 0)).heap.size=w'.heap.size+1:=N!;have j:((w'.alloc (.map #[] 0)).alloc (.map #[] 0)).heap.size=w'.heap.size+2:=N!;have g:∀o,K! w'<|((w'.alloc (.map #[] 0)).alloc (.map #[] 0)).alloc o:=λo=>ak (ak R! _) _;have y:∀o,bp (((w'.alloc (.map #[] 0)).alloc (.map #[] 0)).alloc o) w'.heap.size []:=λo=>(bp.new w').below<|ak R! _
 have v:∀o,bp (((w'.alloc (.map #[] 0)).alloc (.map #[] 0)).alloc o) (w'.heap.size+1) []:=λo=>by
  exact nbp
 have c:=λf=>aO.new ((w'.alloc (.map #[] 0)).alloc (.map #[] 0)) 137 f;rw[j]at c;have u:=λo=>Step.rule (T:=λ_=>False) (G:=G) (Only.aP (S:=λ_=>False)<|g o) (λ_ _ h=>h.elim) λb=>if b=w'.heap.size then t++[2]else if b=w'.heap.size+1 then t++[3]else t
 refine⟨w'.heap.size+2,?_,_,⟨⟨Q!,w'.heap.size,w'.heap.size+1,λ_=>0⟩,?_,?_,oy.nil _ _ _ _,?_,?_,y _,v _,λk l hk=>o!⟩,u _⟩
 .simp[ptr]
 .exact c #[A! i,H? n,A! 0,Q!,A! 0,.map<|C! w'.heap.size,.map<|C!<|w'.heap.size+1]
 .show(if _ then _ else _)=_;rw[F! B!,F! B!,F! B!]
 .show(if w'.heap.size<_ then _ else _)=_;exact bbB
 .show(if w'.heap.size+1<_ then _ else if w'.heap.size+1=_ then _ else if w'.heap.size+1=_ then _ else _)=_;exact mbG
def kO(t:Tag)(b:Nat)(m':bh)(G:Nat->Tag)(w:D!)(r:I?)(e:Ending)(i:D!):Prop:=e=.returned r/\∃o,eC i o t b m'/\Step (aq t) G w o i
theorem kO.same{r:I?}(h:eC w G t b m):kO t b m G w r (.returned r) w:=⟨rfl,G,h,Step.refl _ _ _⟩
theorem eC.aP(h:eC w G t b m)(hb:K! w w1):eC w1 (grow G w.heap.size free) t b m/\Step (aq t) G w (grow G w.heap.size free) w1:=
 ⟨h.step (Step.below hb (T:=λ_=>False)) (λ_ _ h=>h),(Step.below hb (T:=λ_=>False)).mono λ_ h=>h.elim⟩
theorem ZK(k:Int)(h:eC w G t b m):G! E? 192 #[ptr b,A! k] w (kO t b (Bd m k).1 G w<|A! (Bd m k).2):=by
 have H0:=A? h;obtain⟨x,h⟩:=h;have H:=h.blk.k 6;have d:=h.look k;have N:=λS=>tW (P:=E?) h.ml underlying135 S;rw[dN]at N;unfold Bd;unfold ptr at*
 by_cases g:k<0
 .rw[G? (.inl g)];exact bbG
 .cases n:au m.lanes k with
  |true=>
   rw[G? (.inr rfl)];rw[n,G? rfl]at d;exact bbG
  |false=>
   rw[F!<|by rintro(e|e);exact g e;cases e];rw[n,F! I!]at d;have j:=A? n;by_cases l:8<=m.lanes.length
   .rw[G? l];exact bbG
   .rw[F! l];have u:∀o,bp (w.alloc o) x.ml<|dY (λk _=>ptr<|x.f k) m.lanes:=λo=>h.ml.below R!;unfold ptr at u;have z:=A? u;have L:=h.ml.lt;go_in;go_wp2_with(refine eD rfl _ _ _ rfl underlying135 underlying3 k _ (z _) rfl rfl rfl λw1 O f D=>?_);go_ret;have I:=(aO.new w 261 #[Q!,H? H!]).only f B!;let⟨y,R,E,A⟩:=h.add j (((Only.refl (λk=>k=x.ml) w).alloc _).trans f) O? I O;exact⟨rfl,y,⟨R,E⟩,A⟩
theorem GD(k:Int)(h:eC w G t b m):G! E? 136 #[ptr b,A! k] w (T! w<|A!<|pH m k):=by
 obtain⟨x,h⟩:=h;have j:=h.blk.k 6;have d:=h.look k;cases n:au m.lanes k with
 |false=>
  have e:pH m k=0:=by
   unfold pH aL;rw[fK]at n;cases g:bt m.lanes k with
   |none=>rfl
   |some _=>rw[g]at n;cases n
  rw[e];rw[n,F! I!]at d;unfold ptr;exact d?
 |true=>
  let⟨v,u⟩:=h.uK n;obtain⟨a,c,rfl,f,z⟩:=u.row.1.form;have y:=u.blk.k 0;rw[n,G? rfl]at d;have l:E!<|pH m k=((aL m k).waits.length:Int):=A? rfl;generalize (aL m k).waits.length=L at y l f;unfold ptr at*
  go_wp2
  go_ret;exact⟨by rw[l.out];rfl,rfl⟩
theorem OA(h:eC w G t b m)(g:m.bB.length<=1099511627776/\m.opn.length<=1099511627776):G! E? 49 #[ptr b] w (S? w<|A!<|fN m):=by
 obtain⟨x,h⟩:=h;have l:=h.blk.k 3;have A:=h.blk.k 5;have d:=λE=>tW (P:=E?) (w:=w.drew) (h.mo.below<|aQ U?) underlying91 E;rw[dN]at d;let⟨a,c,z,j,O⟩:=h.IG.1.form;rw[z]at l;have n:E!<|fN m=(m.bB.length:Int)+m.opn.length:=A? rfl;obtain⟨u,f⟩:=g;let⟨L,y⟩:=F? m.bB.length;let⟨M,k⟩:=F? m.opn.length;rw[y]at l n u j;rw[k]at n f d;have I:IntKind.i64.wrap ((L:Int)+M)=(L:Int)+M:=mdG;unfold ptr at*
 go_in
 go_wp2_with fail;apply gG M? M?
 repeat still_step
 apply Θ;go_wp2;go_ret;exact⟨by rw[n.out];rfl,aQ U?⟩
theorem UF(W:D!)(k:Nat)(a:Int)(e:W.cell? ⟨k,0,L?⟩=C! (.int .u8 a)):
 (convert 64 9 (J! (C! ⟨k,0,L?⟩) 1 1)).run E? W=.ok (D? (strOfNums [a])) W:=
 bcE W _ 5 underlying64 underlying5 k 0 1 1 [a] rfl (λi o=>by
  have:i=0:=by simp at o;omega
  subst this;exact e) _ underlying9
def kz(r:List UInt8×Int):Value:=.tuple #[D? (bytesOf r.1),.int .i64 r.2]
section
variable(code id:Int)(L:List UInt8)(name:ByteArray)(w:D!)(hz:L.length<=9223372036854775807)
include code id L name hz
theorem WL(h:code<1\/4<code\/dw id=H!\/fR code≠K? (L≠[])\/255<L.length):
 G! E? 216 #[.agg (aK ⟨code,id,bytesOf L,name⟩).toArray] w λe l=>e=.returned (kz (cx ⟨code,id,bytesOf L,name⟩))/\Below w.heap.size w l:=by
 have n:=aA L
 have HM:E! (cx ⟨code,id,bytesOf L,name⟩=([],600)):=A? (by
  unfold cx;simp only[n];rw[G?];rcases h with h|h|h|h|h
  .exact .inl h
  .exact .inr (.inl h)
  .exact .inr (.inr (.inl h))
  .refine .inr (.inr (.inr (.inl ?_)));rw[show K? (L.length≠0)=K? (L≠[])from decide_eq_decide.2 ⟨λa b=>a (by rw[b];rfl),λa b=>a (y? b)⟩];exact h
  .exact .inr (.inr (.inr (.inr h))))
 have o:=λw=>wM code w;have i:=λw=>Gn id w;let⟨V,r⟩:=F? (fR code);let⟨O,s⟩:=F? (dw id);rw[r]at o h;rw[s]at i h;generalize cx ⟨code,id,bytesOf L,name⟩=R at HM|-;unfold aK;have q:(bytesOf L).toList=L:=(dG _).trans rfl;have H:=A? h;cases V<;>cases O<;>cases L<;>simp only[l?,V!]at n
 all_goals
  go_in
  go_wp2_with fail;refine d! (o _) ?_;go_wp2_with(go_at_call 253;refine d! (i _) ?_)
  all_goals first
   |(exfalso;have:=H.out;simp at this;omega)
   |(exfalso;have:=H.out;simp at this;done)
   |(go_ret2;exact⟨ba3,ϕ⟩)
theorem Sa(h:¬(code<1\/4<code\/dw id=false\/fR code≠decide (L≠[])\/255<L.length)):
 Calls prog 216 #[.agg (aK ⟨code,id,bytesOf L,name⟩).toArray] w λe w'=>e=.returned (kz (cx ⟨code,id,bytesOf L,name⟩))/\Below w.heap.size w w':=by
 have hsz:=aA L
 have HE:Hid (cx ⟨code,id,bytesOf L,name⟩=if 253<name.size then([],601)else([aE code,aE id,aE ((4+((if fR code then aE L.length::L else[])++name.data.toList).length:Nat)/256:Int),aE (4+((if fR code then aE L.length::L else[])++name.data.toList).length:Nat)]++((if fR code then aE L.length::L else[])++name.data.toList),0)):=A? (by
  unfold cx
  have hb:¬(code<1\/4<code\/dw id=false\/fR code≠decide ((bytesOf L).size≠0)\/255<(bytesOf L).size):=by
   rw[hsz,show decide (L.length≠0)=decide (L≠[])from decide_eq_decide.2 ⟨λa b=>a (by rw[b];rfl),λa b=>a (y? b)⟩];exact h
  rw[F! hb];simp only[hsz];rfl)
 have CK:=λw=>wM code w;have hoc:=λw=>Gn id w;have h1:¬code<1:=λe=>h (.inl e);have h4:¬4<code:=λe=>h (.inr (.inl e))
 have ho:dw id=true:=by
  cases ho:dw id
  .exact absurd (.inr (.inr (.inl ho))) h
  .rfl
 have hv:fR code=decide (L≠[]):=by
  by_cases e:fR code=decide (L≠[])
  .exact e
  .exact absurd (.inr (.inr (.inr (.inl e)))) h
 have hL:L.length<=255:=by
  by_cases e:255<L.length
  .exact absurd (.inr (.inr (.inr (.inr e)))) h
  .omega
 have hid:0<=id/\id<=255:=by unfold dw at ho;simpa using ho
 obtain⟨hi0,hi1⟩:=hid;rw[hv]at CK HE;rw[ho]at hoc;have q:(bytesOf L).toList=L:=(dG _).trans rfl;obtain⟨R,hR⟩:∃R,cx ⟨code,id,bytesOf L,name⟩=R:=⟨_,rfl⟩;rw[hR]at HE|-;unfold aK;have c1:=UF;have c4:=Nr;have s1:∀a:Int,(strOfNums [a]).size=1:=λa=>ν _;have s4:∀a b c d:Int,(strOfNums [a,b,c,d]).size=4:=λa b c d=>ν _;by_cases hn:253<name.size
 .have HM:Hid (R=([],601)):=A? (by rw[HE.out,G? hn]);have d1:decide ((253:Int)<(name.size:Int))=true:=b! B!;cases L
  all_goals
   simp only[l?,V!]at hsz hL;go_in;go_wp2_with fail;refine(CK _).mono ?_;rintro e w' ⟨rfl,rfl⟩;go_wp2_with(go_at_call 253;refine(hoc _).mono ?_;rintro e w' ⟨rfl,rfl⟩);go_ret2;exact⟨ba3,ϕ⟩
 .have HM:=A? (HE.out.trans (F! hn));have d1:decide ((253:Int)<(name.size:Int))=false:=W? B!;cases L
  .have HV:Hid (bytesOf ([aE code,aE id,aE ((4+name.size:Nat)/256:Int),aE (4+name.size:Nat)]++name.data.toList)=strOfNums [code,id,(4+(name.size:Int))/256,(4+(name.size:Int))%256]++name):=A? (by
    rw[m8];simp only[i?,y!];rw[cZ code B! B!,cZ id B! B!,cZ ((4+(name.size:Int))/256) B! B!];rfl)
   have HM2:Hid (R=([aE code,aE id,aE ((4+name.size:Nat)/256:Int),aE (4+name.size:Nat)]++name.data.toList,0)):=A? (HM.out.trans rfl);simp only[l?]at hsz;go_in;go_wp2_with fail;refine(CK _).mono ?_;rintro e w' ⟨rfl,rfl⟩;go_wp2_with(go_at_call 253;refine(hoc _).mono ?_;rintro e w' ⟨rfl,rfl⟩);go_ret2;refine⟨?_,ϕ⟩;rw[HM2.out];show _=Ending.returned (.tuple #[.string (bytesOf ([aE code,aE id,aE ((4+name.size:Nat)/256:Int),aE (4+name.size:Nat)]++name.data.toList)),.int .i64 0]);rw[HV.out];rfl
  .rename_i a L;simp only[V!]at hsz hL;have HM2:Hid (R=([aE code,aE id,aE ((4+(aE (L.length+1:Nat)::(a::L)++name.data.toList).length:Nat)/256:Int),aE (4+(aE (L.length+1:Nat)::(a::L)++name.data.toList).length:Nat)]++(aE (L.length+1:Nat)::(a::L)++name.data.toList),0)):=A? (HM.out.trans rfl)
   have HV:Hid (bytesOf ([aE code,aE id,aE ((4+(aE (L.length+1:Nat)::(a::L)++name.data.toList).length:Nat)/256:Int),aE (4+(aE (L.length+1:Nat)::(a::L)++name.data.toList).length:Nat)]++(aE (L.length+1:Nat)::(a::L)++name.data.toList))=strOfNums [code,id,(4+(1+((L.length:Int)+1)+(name.size:Int)))/256,(4+(1+((L.length:Int)+1)+(name.size:Int)))%256]++(strOfNums [(L.length:Int)+1]++bytesOf (a::L)++name)):=A? (by
    have e1:strOfNums [(L.length:Int)+1]++bytesOf (a::L)++name=bytesOf (aE (L.length+1:Nat)::(a::L)++name.data.toList):=by
     rw[m8];simp only[i?,y!];rw[cZ ((L.length:Int)+1) B! B!];exact l7 _ name.data.toList
    have e2:((4+(aE (L.length+1:Nat)::(a::L)++name.data.toList).length:Nat):Int)=4+(1+((L.length:Int)+1)+(name.size:Int)):=by
     rw[X!,V!,V!,bK];omega
    rw[e1,m8,e2];simp only[i?,y!];rw[cZ code B! B!,cZ id B! B!,cZ ((4+(1+((L.length:Int)+1)+(name.size:Int)))/256) B! B!];rfl)
   go_in
   go_wp2_with fail;refine(CK _).mono ?_;rintro e w' ⟨rfl,rfl⟩;go_wp2_with(go_at_call 253;refine(hoc _).mono ?_;rintro e w' ⟨rfl,rfl⟩);go_ret2;refine⟨?_,ϕ⟩;rw[HM2.out];show _=Ending.returned (.tuple #[.string (bytesOf ([aE code,aE id,aE ((4+(aE (L.length+1:Nat)::(a::L)++name.data.toList).length:Nat)/256:Int),aE (4+(aE (L.length+1:Nat)::(a::L)++name.data.toList).length:Nat)]++(aE (L.length+1:Nat)::(a::L)++name.data.toList))),.int .i64 0]);rw[HV.out];rfl
end
theorem qA(c:cT)(w:D!)(i:c.value.size<=9223372036854775807):G! E? 216 #[.agg (aK c).toArray] w λe l=>e=.returned (kz (cx c))/\Below w.heap.size w l:=by
 obtain⟨o,n,s,r⟩:=c;obtain⟨L,rfl⟩:∃L,s=bytesOf L:=⟨s.data.toList,(ox s).symm⟩;have i:L.length<=9223372036854775807:=by rw[<-aA L];exact i
 by_cases h:o<1\/4<o\/dw n=H!\/fR o≠K? (L≠[])\/255<L.length
 .exact WL o n L r w i h
 .exact Sa o n L r w i h
section
section
variable{P:Program}{ops:Array Oper}{Q:Exit->Act->D!->Prop}{S:D!->Prop}
inductive vM where
 |fin (l:List<|Nat×Bool)
 |two (l:List<|Nat×Bool) (i j:Nat) (ti tj:vM)
def UL(l:List<|Nat×Bool)(e:Array Bool):Array Bool:=l.foldl (λa x=>a.setIfInBounds x.1 C?) e
def preB(ops:Array Oper):List (Nat×Bool)->Array Bool->Bool
 |[],_=>C?
 |(i,C?)::r,e=>Region.free .any ops e i&&(Region.ready .any ops e).contains i&&preB ops r (e.setIfInBounds i C?)
 |(i,H!)::r,e=>(Region.ready .any ops e==[i])&&preB ops r (e.setIfInBounds i C?)
def Pg(ops:Array Oper):vM->Array Bool->Bool
 |.fin l,e=>uF .any ops l e
 |.two l i j o n,e=>preB ops l e&&(Region.ready .any ops (UL l e)==[i,j])&&Pg ops o ((UL l e).setIfInBounds i C?)&&Pg ops n ((UL l e).setIfInBounds j C?)
def vM.many:vM->Nat
 |.fin l=>l.length
 |.two l _ _ e _=>l.length+(e.many+1)
def vM.even:vM->Bool
 |.fin _=>C?
 |.two _ _ _ e o=>K? (e.many=o.many)&&e.even&&o.even
theorem Hf{Q':Exit->Act->World->Prop}{i:Nat}{K:Act->World->Prop}{a:Act}{w:World}(hQ:∀e a w,e≠Exit.normal->Q e a w->Q' e a w)(h:wpOp P ops Q i K a w):wpOp P ops Q' i K a w:=by
 unfold wpOp at*
 cases hi:ops[i]? with
 |none=>rw[hi]at h;exact h
 |some o=>
  rw[hi]at h;dsimp only at h|-;split
  .rename_i hw;rw[G? hw]at h;rcases h with h|⟨h1,h2⟩
   .refine .inl ?_;unfold Oper.wp at*
    generalize(execOp a.eval o).run P w=r at*
    cases r with
    |ok n w'=>
     cases n<;>simp only[Oper.upon]at h|-
     all_goals first
      |exact h
      |exact hQ _ _ _ N! h
      |(refine h.mono ?_
        intro e w'' he;cases e<;>first|exact he|exact hQ _ _ _ N! he|(obtain⟨a',w',hx⟩:=he;exact⟨a',w',hQ _ _ _ N! hx⟩))
    |halt x w'=>cases x<;>first|exact h|exact hQ _ _ _ N! h|exact h.elim
   .exact .inr ⟨h1,by obtain⟨a',w',hx⟩:=h2;exact⟨a',w',hQ _ _ _ N! hx⟩⟩
  .rename_i hw;rw[F! hw]at h;exact h
theorem Kc(Q:Exit->Act->D!->Prop)(o:Act->D!->Prop)(e:Exit)(a:Act)(w:D!)(i:e≠.normal)(h:yM Q o e a w):Q e a w:=by
 cases e<;>first|exact absurd rfl i|exact h
theorem Hg(z:Region.noSelect ops=C?)(q:∀c d v a w,Q (.panic c) (Act.put a d v) w->Q (.panic c) a w)(u:Act->D!->Prop)(n:Nat):∀(l:List<|Nat×Bool) (s:Array Bool) (a:Act) (w:D!),
 preB ops l s=C?->S w->(∀a w,S w->u a w->wpAnyH P .any ops Q S n (UL l s) a w)->zL P ops S (yM Q u) l a w->wpAnyH P .any ops Q S (l.length+n) s a w
 |[],s,a,w,e,g,f,h=>by
  rw[l?,ξ];exact f a w g h
 |(i,C?)::r,s,a,w,e,g,f,⟨o,v,N,R,h⟩=>by
  simp only[preB,k!]at e;obtain⟨⟨y,k⟩,I⟩:=e;rw[V!,Nat.add_right_comm];exact wpAnyH_take N z y k (λc a w=>q c _ _ a w) R g<|Hg z q u n r _ _ w I g f h
 |(i,H!)::r,s,a,w,e,g,f,h=>by
  simp only[preB,k!,κ]at e;obtain⟨y,k⟩:=e;rw[V!,Nat.add_right_comm];refine wpAnyH_all y N! λj E=>?_;rw[j?]at E;subst E;exact bbI (λO L ⟨A,H⟩=>⟨A,Hg z q u n r _ O L k A f H⟩)<|Hf (Kc Q u) h
def tB(P:Program)(ops:Array Oper)(S:D!->Prop)(Q:Exit->Act->D!->Prop):vM->Act->D!->Prop
 |.fin l,a,w=>bO P ops S Q (fQ ops l) a w
 |.two l i j e o,a,w=>bO P ops S (yM Q λa w=>bO P ops S (yM Q λa w=>tB P ops S Q e a w) (fQ ops [(i,H!)]) a w/\bO P ops S (yM Q λa w=>tB P ops S Q o a w) (fQ ops [(j,H!)]) a w) (fQ ops l) a w
def vM.Ix(n:Nat):vM->Bool
 |.fin l=>l.all λx=>K? (x.1<n)
 |.two l i j e o=>(l.all λx=>K? (x.1<n))&&K? (i<n)&&K? (j<n)&&e.Ix n&&o.Ix n
theorem Eu{i:Nat}{e:Act->D!->Prop}{a:Act}{w:D!}(o:i<ops.size)(h:bO P ops S (yM Q e) (fQ ops [(i,H!)]) a w):wpOp P ops Q i (λa w=>S w/\e a w) a w:=
 Hf (Kc Q e) (bbI (λr l ⟨n,s⟩=>⟨n,s⟩)<|lJ [(i,H!)] a w (by simpa using o) h)
theorem DH(f:Region.noSelect ops=C?)(s:∀c d v a w,Q (.panic c) (Act.put a d v) w->Q (.panic c) a w):∀(t:vM) (e:Array Bool) (a:Act) (w:D!),
 Pg ops t e=C?->t.Ix ops.size=C?->t.even=C?->S w->tB P ops S Q t a w->wpAnyH P .any ops Q S t.many e a w
 |.fin l,e,a,w,n,u,_,r,h=>wH f s l e a w n r<|lJ l a w u h
 |.two l i j O V,e,a,w,n,u,E,r,h=>by
  simp only[Pg,k!,κ]at n;obtain⟨⟨⟨H,L⟩,D⟩,C⟩:=n;simp only[vM.Ix,k!,z?]at u;obtain⟨⟨⟨⟨M,F⟩,W⟩,Y⟩,B⟩:=u;simp only[vM.even,k!,z?]at E;obtain⟨⟨I,N⟩,R⟩:=E;refine Hg f s _ (O.many+1) l e a w H r ?_<|lJ l a w M h;intro a w r z;refine wpAnyH_all L N! λk A=>?_;simp only[n!,List.mem_nil_iff,baE]at A;rcases A with rfl|rfl
  .exact bbI (λg q ⟨o,y⟩=>⟨o,DH f s O _ g q D Y N o y⟩)<|Eu F z.1
  .exact bbI (λg q ⟨o,y⟩=>⟨o,I▸DH f s V _ g q C B R o y⟩)<|Eu W z.2
theorem wO{g:Nat}{a:Act}{w:D!}{l:List Oper}(S:D!->Prop)(t:vM)(u:P.follows .mixedOrders=C?)(f:Region.noSelect l.toArray=C?)(e:t.many=l.toArray.size)
 (r:t.Ix l.toArray.size=C?)(s:t.even=C?)
 (o:Pg l.toArray t (Array.replicate l.toArray.size H!)=C?)(n:S w.drew)(i:∀c d v a w,Q (.panic c) (Act.put a d v) w->Q (.panic c) a w)
 (h:tB P l.toArray S Q t a w.drew):(Code.region g l.toArray C?).wp P Q a w:=by
 apply wp_region_held (S:=S) u;rw[<-e];have:=DH (P:=P) f i t (Array.replicate l.toArray.size H!) a w.drew o r s n h;rw[<-e]at this;exact this
theorem jf{A B:Act->D!->Prop}{a:Act}{w:D!}(e:A a w)(o:B a w):yM Q (λa w=>A a w/\B a w) .normal a w:=⟨e,o⟩
theorem dg{n:Act->D!->Prop}{o:Oper}{a:Act}{w:D!}
 (h:∀(s:Exit->Act->D!->Prop) (K:Act->D!->Prop),E! (∀i e,S e->n i e->K i e)->wpList P ops (yM s K) [o] a w):bO P ops S (yM Q n) [(o,H!)] a w:=
 λK d=>h (yM Q n) K<|A? λi e r l=>d i e r l
end
end
section
variable{m m':aT}
def zt(m:aT)(o:Int)(left:KV bF):aT:={m with held:=om m o left,lost:=m.lost+jW m o left}
theorem gH.keep(h:gH m)(o:Int)(left:KV bF):gH<|zt m o left:=
 ⟨h.n0,h.n1,h.nd.sublist<|List.filter_sublist.map _,λx e=>h.ks x (List.mem_filter.1 e).1,h.ln,h.ls,h.m0⟩
theorem SZ(m:aT)(o:Int)(left:KV bF):jW m o left<=m.held.length:=ϝ _ _
theorem Ht(o:Int)(h:cE w b lb hb m)(hg:gH m)(ho:0<=o/\o<=1099511627776)(hl:0<=m.lost/\m.lost+m.held.length<=1152921504606846976):
 Calls prog 240 #[ptr b,A! o] w (GH b lb hb (Af m o) w (.tuple #[])):=by
 have c0:=h.c0;have c5:=h.c5;have hp:=eF m;have hS:=A?<|λleft s w (h:cE w b lb hb<|zt m o left) hs=>ug s h (hg.keep o left) hs;have hA:=A?<|λleft w (h:cE w b lb hb<|zt m o left)=>CF o h (hg.keep o left) ho;have H:=A? h;have hlt:=h.mh.lt;have hks:=A? hg.ks;have hnn:=A? hg.nd
 have h0:Hid (cE w b lb hb (zt m o m.held)):=A? (by
  obtain⟨e1,e2⟩:=Wi m o;unfold zt;rw[e1,e2,Int.natCast_zero,Int.add_zero];exact h)
 clear h hg;obtain⟨ho1,ho2⟩:=ho;obtain⟨hl1,hl2⟩:=hl;unfold ptr at*
 go_in
 go_wp2_with(refine jH rfl _ rfl underlying152 H.mh rfl λw1 hi hm hbl hz=>?_);clear c0 c5;simp only[Act.put,υ,ϑ,ϊ];go_loopw[4] (λv wr=>∃(left:KV bF),gP wr w.heap.size hb (dY (λ_ f=>yI f) left)/\Only (xM b lb hb) w wr/\Hid ((left.map (·.1)).Nodup)/\Hid (∀y∈left,y∈m.held)/\Hid (cE wr b lb hb<|zt m o left)) (λ_ wr=>Ei wr w.heap.size hb)
 case atStart=>exact⟨m.held,hi,Only.aP hbl,hnn,A? (λy hy=>hy),A?<|h0.below hbl⟩
 case round=>
  obtain⟨left,hit,fX,hnd,hsub,hj⟩:=hrel;have Dc:=iB hit;clear hi hm;have c0:=hj.out.c0;have c5:=hj.out.c5;have c6:=hj.out.c6;have Uh:=SZ m o left
  go_wp2_with(first
   |(refine kF rfl _ rfl hit bbk rfl (λhd=>?_) (λk v w2 hk hon ho hz2=>?_)
     rotate_left
     obtain⟨f,hkn,rfl⟩:=vF hk
     have pS:∀i,xM b lb hb i->i≠w.heap.size:=λi hi=>by
      have h1:=H.blk.lt;have h2:=H.ml.lt;rcases hi with rfl|rfl|rfl<;>omega
     have hj2:=hj.out.only ho pS;have ho2:=fX.and ho λk hk=>.inr (by rw[hk];exact Y? _);have HN:=A?<|hks _<|hsub.out _ hkn;have GI:=A? hon;clear ho hk hon
     rotate_left)
   |(refine iD rfl _ rfl GI rfl ?_)
   |(go_at_call 199
     refine(hS left k _ hj2 (by have:=HN.out;simp only at*;omega)).mono ?_;rintro e w3 ⟨rfl,hb3⟩;have hj3:=hj2.below hb3;have hi3:=GI.1.below hb3;have c5:=hj3.c5;have c6:w3.cell? (B? b 6)=N? (m.lost+jW m o left):=hj3.c6;have f6:=hj3.blk.frozen 6)
   |(go_at_call 238
     refine(hA left _ hj.out).mono ?_;rintro e w3 ⟨rfl,hb3⟩;have hj3:=hj.out.below hb3;have c1:=hj3.c1;have f1:=hj3.blk.frozen 1)
   |(refine FC rfl _ _ rfl underlying152 underlying3 k hj3.mh hi3 B! (λx hx=>by have:=(List.mem_filter.1 hx).2;simpa using this) rfl rfl λw4 h4 hi4 ho4 hz4=>?_
     rw[fZ]at h4;have hj4:=hj3.held h4 ho4;have c6:w4.cell? (B? b 6)=N? (m.lost+jW m o left):=hj4.c6;have f6:=hj4.blk.frozen 6))
  .have hle:=tf hd;go_end0;have hS1:cE (w3.setCell (B? b 1)<|A!<|qM (zt m o left) o) b lb hb {zt m o left with next:=qM (zt m o left) o}:=hj3.cells (hj3.blk.set 1 _ rfl) (ay _ _ _ _) rfl rfl;refine⟨rfl,?_,(fX.then hb3).trans (ay w3 b 1 _).j1⟩;rw[acN];rw[hle]at hS1|-;exact hS1
  .have hko:gN m k<o:=baI;have hlen:=mH hnd.out hkn;obtain⟨e1,e2⟩:=ZB (j:=m) (o:=o) hnn (dI.2<|a!.2 ⟨_,hsub.out _ hkn,rfl⟩) (dI.2<|a!.2 ⟨_,hkn,rfl⟩) hko;have hO:=ay w4 b 6<|A!<|m.lost+jW m o left+1
   have hM:zt m o (dB left k)={zt m o left with held:=dB (om m o left) k,lost:=m.lost+jW m o left+1}:=by
    unfold zt;rw[e1,e2];congr 1;omega
   have hj5:cE (w4.setCell (B? b 6)<|A!<|m.lost+jW m o left+1) b lb hb<|zt m o<|dB left k:=by
    rw[hM];exact hj4.cells (hj4.blk.set 6 _ rfl) hO rfl rfl
   have Q4:=H.blk.lt;have hi5:=hi4.only hO B! hj4.nh;rw[fZ]at hi5;go_roundw
   case rel=>exact⟨dB left k,hi5,((ho2.then hb3).trans ho4.j3).trans hO.j1,A?<|fM hnd.out k,A? (λy hy=>hsub.out y<|lF hy),A? hj5⟩
   case measure=>
    have e1:=iB hi5;rw[dN]at e1 Dc;rw[e1,Dc];omega
  .have hko:¬gN m k<o:=by first|assumption|(have:o<=gN m k:=by assumption
                                            omega)
   have hlen:=mH hnd.out hkn;obtain⟨e1,e2⟩:=ZA (j:=m) (left:=left) hko
   have hM:zt m o (dB left k)=zt m o left:=by
    unfold zt;rw[e1,e2]
   have hi5:=hi3;rw[fZ]at hi5;go_roundw
   case rel=>exact⟨dB left k,hi5,ho2.then hb3,A?<|fM hnd.out k,A? (λy hy=>hsub.out y<|lF hy),A?<|by rw[hM];exact hj3⟩
   case measure=>
    have e1:=iB hi5;rw[dN]at e1 Dc;rw[e1,Dc];omega
end
section
variable{m m':aT}
structure Pq(m:aT):Prop where
 d:∀x∈m.held,x.2.d.size<=2048
 n:m.held.length<=4095
theorem zY(w1:D!)(p:Nat)(e o i n:I?):Only (· =p) w1<|(((w1.setCell (B? p 0) e).setCell (B? p 1) o).setCell (B? p 2) i).setCell (B? p 3) n:=
 ((((Only.refl (λk=>k=p) w1).set (.inl rfl) e).set (.inl rfl) o).set (.inl rfl) i).set (.inl rfl) n
theorem Own.lt{w:D!}{o:Nat}{v:I?}{l:List UInt8}(h:Own w o v l):∀k,v.ownBlock=C! k->k<w.heap.size:=by
 intro k e;rcases h.2 with⟨rfl,_⟩|⟨g,n,s,rfl,r,i,_⟩
 .cases e
 .cases e;exact(i!.1 i).1
def UR(r:List UInt8×Int×Bool):Value:=.tuple #[D?<|bytesOf r.1,A! r.2.1,H? r.2.2]
theorem CZ(j:aT)(n i:Nat)(e:List UInt8):gK j (n+1) i e=match bt j.held (qM j i)with
 |none=>([],i,H!)
 |some f=>if 0<i/\f.b=C? then([],i,H!)else if f.e=C? then(e++f.d.data.toList,i+1,C?)else gK j n (i+1) (e++f.d.data.toList):=rfl
def um(m:aT)(k:Int):Value:=.tuple #[.agg #[H? ((bt m.held k).getD eZ).b,H? ((bt m.held k).getD eZ).e,A! ((bt m.held k).getD eZ).seq,D? ((bt m.held k).getD eZ).d],H?<|au m.held k]
theorem cE.um(h:cE w b lb hb m)(k:Int):(Instr.lookup 152 (.map<|C! hb) (A! k) C?).run E? w=.ok (um m k) w:=h.ZM k
theorem Ex(h:cE w b lb hb m)(ax:gH m)(ar:Pq m):G! E? 270 #[ptr b] w (S? w<|UR<|gK m (m.held.length+1) 0 []):=by
 have c7:=eF m;have be:=A? λo w (h:cE w b lb hb m) bo=>CF o h ax bo;let⟨R,ap⟩:=F?<|gK m (m.held.length+1) 0 [];rw[ap];have b6:E!<|R=gK m (m.held.length+1-0) 0 []:=A? ap.symm;have c6:=ar.n;have b4:=A? ar.d;have b5:=A? ax.nd;unfold ptr UR at*
 go_wp2
 go_loopw[5,6] (λv i wr=>∃(k:Nat) (l:List UInt8),i=A! k/\Own wr w.heap.size v l/\K! w wr/\k<=m.held.length/\l.length<=k*2048/\E! (∀i:Nat,i<k->au m.held (qM m i)=C?)/\E! (R=gK m (m.held.length+1-k) k l)) (λ_ i _=>5000-(intOf i).toNat)
 case atStart=>exact⟨0,[],rfl,Own.nil _ _,P! _ _,S! _,S! _,A? (λi az=>absurd az<|bb9 _),b6⟩
 case round=>
  obtain⟨k,l,rfl,b0,a3,hk,c3,bk,ad⟩:=hrel;have a5:=h.below a3;have hS:E!<|∀n,cE n b lb hb m->L! n b 5 (.map<|C! hb)/\(Instr.lookup 152 (.map<|C! hb) (A!<|qM m k) C?).run E? n=.ok (um m<|qM m k) n:=A? λn h=>⟨h.c5,h.um _⟩;let⟨K,ao⟩:=F?<|qM m k;have F:=A? ao;have an:E!<|∀n,cE n b lb hb m->G! E? 238 #[P? b,A! k] n (S? n<|A! K):=A? λn h=>by rw[<-F.out];exact be k n h B!
  rw[ao]at hS;let⟨f,av⟩:=F?<|(bt m.held K).getD eZ;let⟨a8,O⟩:=F?<|au m.held K
  have V:E! (if a8=C? then bt m.held K=C! f else bt m.held K=L?):=A? (by
   rw[<-O,<-av,fK];cases bt m.held K<;>simp)
  unfold um at hS;rw[av,O]at hS;have ac:=A? O;go_wp2;refine wO (λn=>L! n b 5 (.map<|C! hb)/\(Instr.lookup 152 (.map<|C! hb) (A! K) C?).run E? n=.ok (.tuple #[.agg #[H? f.b,H? f.e,A! f.seq,D? f.d],H? a8]) n) (.two [(0,C?),(1,C?),(2,C?),(3,C?),(4,C?),(5,C?),(6,C?),(7,C?)] 8 13 (.fin [(9,C?),(10,C?),(11,C?),(12,C?),(13,H!),(14,H!),(15,C?)]) (.fin [(8,H!),(9,C?),(10,C?),(11,C?),(12,C?),(14,H!),(15,C?)])) M? M? rfl M? M? M? (hS _<|a5.below<|aQ U?) (λ_ d _ _ _ h=>bav) ?_;let⟨M,hwd⟩:=F? wr.drew;have A:K! wr M:=bbw;rw[hwd];have a7:=a5.below A;have c9:=A.size;simp only[tB,fQ,ύ,ϟ,baM,baO,baA,p?];refine T? ?_;refine jf ?_ ?_
  focus
   refine dg λb8 W g=>?_;go_wp2_with(go_at_call 238;refine M! (an _ a7) λj L=>?_);have I:=a7.below L;apply O! g (hS _ I);show bO _ _ _ _ _ _ _;refine R? ?_;intro W g;go_wp2_with fail;let⟨C,hw3⟩:=F?<|j.alloc (.cells xaa 228);have u:aO C j.heap.size 228 xaa:=bcl;have E:K! j C:=mb2;rw[hw3];have a6:=I.below E;have z:=A.trans<|L.mono A.size;have a4:=z.trans<|E.mono z.size;have hsz:=z.size;apply O! g (hS _ a6);refine tK ?_;generalize j.heap.size=B at u hsz|-
  rotate_left
  focus
   refine dg λb8 W g=>?_;go_wp2_with fail;let⟨j,hw2⟩:=F?<|M.alloc (.cells xaa 228);have bf:aO j M.heap.size 228 xaa:=mbc;have L:K! M j:=mb8;rw[hw2];have I:=a7.below L;have z:=A.trans<|L.mono A.size;apply O! g (hS _ I);show bO _ _ _ _ _ _ _;refine R? ?_;intro W g;go_wp2_with(go_at_call 238;refine M! (an _ I) λC E=>?_);have a6:=I.below E;have u:=bf.below E;have a4:=z.trans<|E.mono z.size;apply O! g (hS _ a6);refine tK ?_;let⟨B,a0⟩:=F? M.heap.size;have hsz:wr.heap.size<=B:=B!;rw[a0]at u|-
  all_goals
   have bz:=u.cell 0;have c0:=u.cell 1;have c1:=u.cell 2;have c2:=u.cell 3;have ca:=u.frozen 0;have cb:=u.frozen 1;have cc:=u.frozen 2;have cd:=u.frozen 3;refine ai λW g=>?_;go_wp2_with fail;have H:=(((u.set 0 (H? f.b) rfl).set 1 (H? f.e) rfl).set 2 (A! f.seq) rfl).set 3 (D? f.d) rfl;have Z:=a4.trans<|(zY C B (H? f.b) (H? f.e) (A! f.seq)<|D? f.d).below a4.size λk hk=>mbk;generalize (((C.setCell (B? B 0)<|H? f.b).setCell (B? B 1)<|H? f.e).setCell (B? B 2)<|A! f.seq).setCell (B? B 3) (D? f.d)=ag at H Z|-;have b7:=a5.below Z;apply O! g (hS _ b7);refine T? ?_;have bv:=H.k 0;have aa:=H.k 1;have c8:=H.k 3;have a1:=b0.below Z;have S:=a3.trans<|Z.mono a3.size;have a0:=H.lt;have bi:E!<|∀k,u5.ownBlock=C! k->k≠B:=A? λk hk=>by have:=b0.lt k hk;omega
   cases O:a8 with
   |false=>
    rw[O]at V
    have y:E! (R=([],(k:Int),H!)):=A? (by
     rw[ad.out,show m.held.length+1-k=(m.held.length-k)+1 from B!,CZ,F.out,show bt m.held K=L? from V.out])
    go_wp2
    exact V? (v:=.tuple #[D? ⟨#[]⟩,A! k,H? H!]) na1 rfl ⟨by rw[y.out];rfl,S⟩
   |true=>
    rw[O]at V ac;have ab:E!<|bt m.held K=C! f:=A? V
    have Y:E! (R=if 0<k/\f.b=C? then([],(k:Int),H!)else if f.e=C? then(l++f.d.data.toList,(k:Int)+1,C?)else gK m (m.held.length-k) (k+1) (l++f.d.data.toList)):=A? (by
     rw[ad.out,show m.held.length+1-k=(m.held.length-k)+1 from B!,CZ,F.out,ab.out])
    have al:∀i:Nat,i<k+1->au m.held (qM m i)=true:=λi az=>by
     by_cases e:i=k
     .rw[e,F.out,ac.out]
     .exact bk.out i B!
    have bm:=agR (k+1) B! al;have c5:f.d.size<=2048:=b4 _<|(eA b5).1 ab;have ba:=A? al;let⟨a9,b9⟩:=F? f.b;let⟨b2,br⟩:=F? f.e;rw[b9]at bv Y;rw[br]at aa Y;have ae:=A? λ(N:D!) (h:Only (λk=>u5.ownBlock=C! k) ag N)=>(bbJ (h.block B a0 λe=>bi _ e rfl):N.cell? (B? B 1)=ag.cell? (B? B 1));rcases(by by_cases e:0<k<;>cases a9<;>simp[e]:(0<k/\a9=C?)\/(0<k/\a9=H!)\/¬0<k)with⟨J,rfl⟩|⟨J,rfl⟩|J
    .have y:E!<|R=([],(k:Int),H!):=A? (by rw[Y.out,G? ⟨J,rfl⟩]);go_wp2;exact V? (v:=.tuple #[D? ⟨#[]⟩,A! k,H? H!]) na1 rfl ⟨by rw[y.out];rfl,S⟩
    all_goals
     have am:E! (R=if b2=C? then(l++f.d.data.toList,(k:Int)+1,C?)else gK m (m.held.length-k) (k+1) (l++f.d.data.toList)):=A? (by
      rw[Y.out,F!];rintro⟨bc,bd⟩
      first|exact absurd bd I!|exact J bc)
     have b1:=a1.block;have X:=S.size
     have bj:(l++f.d.data.toList).length<=(k+1)*2048:=by
      rw[X!];have:f.d.data.toList.length=f.d.size:=rfl;omega
     have b3:=A? bj;cases b2 with
     |false=>
      have y:E! (R=gK m (m.held.length+1-(k+1)) (k+1) (l++f.d.data.toList)):=A? (by
       rw[am.out,F! I!,show m.held.length+1-(k+1)=m.held.length-k from B!])
      go_wp2_with(at_builtin;apply Cu rfl _ _ rfl w.heap.size _ l f.d a1 rfl rfl B! X;intro bs N a2 D;have bx:=(ae N D).trans aa);go_roundw
      case rel=>exact⟨k+1,_,W!,a2,S.trans (D.below X λb hb=>b1 b hb),bm,b3,ba,y⟩
      case measure=>simp[intOf];omega
     |true=>
      have y:E!<|R=(l++f.d.data.toList,(k:Int)+1,C?):=A? (by rw[am.out,G? rfl]);go_wp2_with(at_builtin;apply Cu rfl _ _ rfl w.heap.size _ l f.d a1 rfl rfl B! X;intro bs N a2 D;have bx:=(ae N D).trans aa;have c4:=a2.conv;have bl:=S.trans<|D.below X λb hb=>b1 b hb);exact V? (v:=.tuple #[D?<|bytesOf<|l++f.d.data.toList,A!<|(k:Int)+1,H? C?]) na1 rfl ⟨by rw[y.out],bl⟩
end
