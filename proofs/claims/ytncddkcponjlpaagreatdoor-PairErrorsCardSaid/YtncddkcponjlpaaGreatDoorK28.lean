/- Walks and plain laws. -/
import Derived.Test.YtncddkcponjlpaaGreatDoorK27
set_option linter.unusedVariables false
set_option linter.unusedSectionVars false
set_option linter.unusedSimpArgs false
set_option maxHeartbeats 0
set_option maxRecDepth 99999
namespace Go.Proofs.YtncddkcponjlpaaGreatDoor
open Go.RowKit Go.Proofs.Tryz
open Go renaming World→D!,Value→I?,Calls→G!,IntKind→ncy
open Go.RowKit renaming Hid→E!
open Decidable renaming decide→K?
open Option renaming some→C!,none→L?
open Bool renaming true→C?,false→H!
open Go.Proofs.Tryz renaming prog→E?
variable{P:Prop}
variable{w w1:D!}{G G1:Nat->Tag}{t:Tag}{b:Nat}{x x':pV}{l l':aM}{ml:Int}
theorem Oh(w:D!)(g o n:Nat):Only (λk=>k=g) w<|w.freeze (B? g o) n:=by
 unfold World.freeze;split
 .exact Only.refl _ _
 .exact⟨rfl,rfl,rfl,N!,λk s i=>by
   simp only[ba8];rw[F! (λe=>i e.symm)]⟩
theorem Oi{b:Nat}{s:Array I?}{n:I?}{l:List UInt8}(h:aO w b 107 s)(m:s[9]? =C! n)(c:Own w 0 n l)(d:l≠[]):
 G! E? 139 #[.pointer<|C!<|B? b 8] w λe A=>e=.returned (D?<|bytesOf l)/\Only (λk=>n.ownBlock=C! k) w A:=by
 have v:l.length≠0:=by simpa using d
 obtain⟨g,o,i,rfl,S,f,H,hcm,R,L⟩:∃g o i,n=J! (C!<|B? g 0) l.length o/\0<=g/\w.heap[g]? =C! (.cells i 5 (0,0))/\l.length<=o/\o<=maxLen/\i.size=o*1/\i.toList.take (l.length*1)=Lib.byteCells l:=by
  rcases c.2 with⟨_,E⟩|⟨g,o,i,q,r⟩
  .exact absurd E v
  .exact⟨g,o,i,q,r⟩
 have O:L! w.drew b 9<|J! (C!<|B? g 0) l.length o:=(h.cell 9).trans m
 have I:(Builtin.unsafeSliceData_ #[64] 263 #[J! (C!<|B? g 0) l.length o]).run E? w.drew=.ok (P? g) w.drew:=
  Lib.run_unsafeSliceData_row _ _ _ _ _ _ B!
 have N:(Builtin.unsafeString_ #[263,3] 9 #[P? g,A! l.length]).run E? w.drew=.ok (D?<|bytesOf l) (w.drew.freeze (B? g 0) l.length):=by
  refine Lib.run_unsafeString_row w.drew 263 3 9 5 underlying263 bx169.cellsByte g i.size (by have y:w.drew.heap[g]? =C! (.cells i 5 (0,0)):=f;simp[World.shape?,y]) l d B! na2 ?_;intro j x z;have:=World.ownsRow.cells c (g:=g) rfl j (.int .u8 x.toNat) (by simp[Lib.byteCells,z]);exact this
 have u:=A?<|(Only.refl (λk=>k=g) w).drew.trans<|Oh w.drew g 0 l.length;go_wp2;have D:prog.follows .mixedOrders=true:=M?;go_region_o
 all_goals(go_wp2;go_ret;exact⟨rfl,u.mono λk _ e=>by rw[e];rfl⟩)
theorem Sp(W:D!)(G:Nat->Tag)(n:t≠[])(c:cT)(s:uJ c):
 OY (W.alloc (.cells #[A! c.code,A! c.id,D? c.value,D? c.name] 104)) (grow G W.heap.size free) t (J! (C!<|B? W.heap.size 0) 1 1) [c]:=by
 have e:=bq.one kL W c W.heap.size O?;refine⟨e.at,λk i=>?_,λy o=>?_⟩
 .have:=e.block k i;rw[fE G free this];exact aJ n
 .rw[j?]at o;subst o;exact s
theorem cM.prf{r:Nat}{g:bM}(h:cM w G t b x l)(O:x.pf=C! r)(f:G r=t++[3])(j:jx w1 r g)(E:Only (· =r) w w1)(z:r<w.heap.size):
 cM w1 (grow G w.heap.size free) t b x {l with proof:=C! g}/\Step (aq t) G w (grow G w.heap.size free) w1:=by
 have hs:Step (λu=>u=t++[3]) G w (grow G w.heap.size free) w1:=Step.of E (λk _ e=>by rw[e,f]) free
 have n:∀a:Int,a≠3->∀u,aq (t++[a]) u->¬(λu=>u=t++[3]) u:=λa q u hu e=>by
  have m:u=t++[3]:=e;subst m;exact Fa q hu<|aq.self _
 have A:¬(λu=>u=t++[3]) t:=λe=>by
  have m:t=t++[3]:=e;have:=U! List.length m;simp at this
 have y:=hs.keep _ h.side.blk.lt (by rw[h.gn];exact n 0 I! _<|aq.self _);have e2:=hs.keep _ h.lt (by rw[h.gt];exact n 2 I! _<|aq.self _)
 refine⟨⟨h.blk.step hs (by rw[h.tag];exact A),(hs.old _ h.blk.lt).trans h.tag,?_,(hs.old _ h.side.blk.lt).trans h.gn,Z! h.lt hs.size,(hs.old _ h.lt).trans h.gt,
  λk d=>(hs.old _ (aD.lt h.side.os k d)).trans (h.go k d),?_,h.out.step hs (n 4 I! _ (aq.self _)),h.tm.step hs (n 5 I! _ (aq.self _))⟩,hs.mono λu hu=>mes⟩
 .exact⟨y.trans h.side.blk,λv s hv hs=>(World.cell?_of_block (by exact e2)).trans<|h.side.tab v s hv hs,aD.only h.side.os hs.only (λk d=>by rw[h.go k d];exact n 1 I! _<|aq.self _),h.side.tp,h.side.op,h.side.good,h.side.mlp⟩
 .rw[O];exact⟨j,(hs.old _ z).trans f⟩
theorem jX.good{p:bM}(h:jX p):zi p:=⟨h.l0,h.l1,h.pos,h.e,h.c,h.s,h.n⟩
theorem LZ(w:D!):G! E? 169 #[.pointer L?] w (S? w (.tuple #[.agg xad,A! 1])):=by
 go_wp2
 exact V? (v:=.tuple #[.agg xad,A! 1]) (by simp[results,results169,go_sem]) rfl ⟨rfl,R!⟩
def GS(t:Tag)(b:Nat)(r:aM×Bool)(G:Nat->Tag)(w:D!)(e:Ending)(o:D!):Prop:=ud t b r.1 G w (H? r.2) e o
theorem CS{m:bM}(h:l.proof=C! m):Cg l=m.proved:=by unfold Cg;rw[h]
section
variable{m:bM}(tries:Int)(h:cM w G t b x l)(ht:t≠[])(hm:l.proof=C! m)
include tries h ht hm
theorem Ja(I:m.proved=C?)(E:uJ l.answer)(X:0<=l.answers/\l.answers<=1099511627776)(O:l.out.length<=549755813888):
 G! E? 122 #[ptr b,A! tries] w (GS t b (kr l tries) G w):=by
 obtain⟨pb,hpf⟩:∃pb,x.pf=C! pb:=by
  exact nbl
 have K:qQ w G (t++[3]) pb m:=by have:=h.pf;rw[hm,hpf]at this;exact this
 have De:=A?<|nU K.blk;rw[I]at De;have a1:=A?<|λ(W:D!) (G1:Nat->Tag) (S:aM) (a6:cI W G1 t b S) (c:cT) (n:uJ c) (O:S.out.length<=549755813888)=>CR (a6.below<|ak U? (.cells #[A! c.code,A! c.id,D? c.value,D? c.name] 104)).1 (Sp W G1 ht c n) ht<|by show S.out.length+4110*1<=_;omega
 have V:kr l tries=if tries<l.answers+1 then({l with answers:=l.answers+1},H!)else(if l.answer.code=2 then lS {l with answers:=l.answers+1} [l.answer]else{l with answers:=l.answers+1},C?):=by
  unfold kr;rw[CS hm,I];rfl
 rw[V];have am:=h.blk.lt;have al:w.cell? (B? b 1)=C! (P? pb):=mdm;have R:=h.blk.k 12;have H:=h.blk.k 13;have L:=h.blk.k 14;have D:=h.blk.k 15;have a5:=h.blk.k 16;have an:=h.blk.frozen 16;have d:aO (w.setCell (B? b 16)<|A!<|l.answers+1) b 107<|bS x {l with answers:=l.answers+1}:=h.blk.set 16 _ rfl;have g:(w.setCell (B? b 16)<|A!<|l.answers+1).cell? (B? b 12)=N? l.answer.code:=d.k 12;have y:(w.setCell (B? b 16)<|A!<|l.answers+1).cell? (B? b 13)=N? l.answer.id:=d.k 13;have k:(w.setCell (B? b 16)<|A!<|l.answers+1).cell? (B? b 14)=C! (D? l.answer.value):=d.k 14;have j:(w.setCell (B? b 16)<|A!<|l.answers+1).cell? (B? b 15)=C! (D? l.answer.name):=d.k 15;have M:(w.setCell (B? b 16)<|A!<|l.answers+1).cell? (B? b 16)=N? (l.answers+1):=d.k 16;clear d;obtain⟨N,Z⟩:=h.own (l':={l with answers:=l.answers+1}) (ay w b 16<|A!<|l.answers+1) ⟨rfl,rfl,rfl,rfl⟩<|h.blk.set 16 _ rfl;obtain⟨f,z⟩:=F? ({l with answers:=l.answers+1}:aM);have J:f.out.length<=549755813888:=by rw[<-z];exact O
 rw[z]at N|-;have K1:=A? N;have K2:=A? Z;have a3:=A? J;obtain⟨A,Y⟩:=F? l.answers;obtain⟨C,B⟩:=F? l.answer;rw[Y]at a5 X K1 K2 g y k j M|-;rw[B]at R H L D g y k j E|-;have a7:=A? E;obtain⟨ae,ag⟩:=X;have ad:=A? h;clear h V K hm I z J Y B N Z O E;obtain⟨W,a8⟩:=F?<|w.setCell (B? b 16)<|A!<|A+1;rw[a8]at K1 K2 g y k j M;unfold ptr;clear R H L D;by_cases u:tries<A+1
 .rw[G? u];have a9:=b! u;clear u;exact naw
 .rw[F! u];have a9:=W? u;clear u;by_cases n:C.code=2
  .rw[G? n];have aa:(C.code==2)=true:=by simp[n]
   have a0:=A?<|a1 W _ f ⟨x,K1⟩ C a7 a3;have ab:=A? (cI.below (t:=t) (b:=b) (l:=f) ⟨x,K1⟩<|ak (P! W.heap.size W) (.cells #[A! C.code,A! C.id,D? C.value,D? C.name] 104)).2;clear n;go_in;go_wp2_with fail;apply De.mono;rintro e w1 ⟨rfl,rfl⟩;go_wp2_with fail;apply a0.mono;rintro e ao ⟨rfl,ac,F,Q⟩;have a2:=A? F;have a4:=A?<|(K2.trans ab).trans Q;clear F Q;go_wp2;go_ret;exact⟨rfl,_,a2,a4⟩
  .rw[F! n];have aa:=Q?.2 n;clear n;exact naw
theorem O1(F:m.proved=H!)(D:jX m)(M:l.out.length<=549755813888):
 G! E? 122 #[ptr b,A! tries] w (GS t b (kr l tries) G w):=by
 obtain⟨pb,hpf⟩:∃pb,x.pf=C! pb:=by
  exact nbl
 have g:qQ w G (t++[3]) pb m:=by have:=h.pf;rw[hm,hpf]at this;exact this
 have O:=A?<|nU g.blk;rw[F]at O;have k:=A?<|OP g.blk D.good;have K:=A?<|λ(W:D!) (G1:Nat->Tag) (A:aM) (Q:cI W G1 t b A) (c:cT) (a5:uJ c) (M:A.out.length<=549755813888)=>CR (Q.below<|ak U? (.cells #[A! c.code,A! c.id,D? c.value,D? c.name] 104)).1 (Sp W G1 ht c a5) ht<|by show A.out.length+4110*1<=_;omega
 have a1:kr l tries=if(gj m).2.2=0 then(lS {l with proof:=C! (gj m).1} [(gj m).2.1],C?)else({l with proof:=C! (gj m).1},H!):=by
  unfold kr;rw[CS hm,F,hm];rfl
 rw[a1];have z:=D.ZE;have u:=A?<|λ(w1:D!) (j:jx w1 pb (gj m).1) (a6:Only (· =pb) w w1)=>h.prf hpf g.tag j a6 g.blk.lt;have ae:=h.blk.lt;have ad:w.cell? (B? b 1)=C! (P? pb):=mdm;obtain⟨⟨Y,C,L⟩,a3⟩:∃R,gj m=R:=⟨_,rfl⟩;rw[a3]at k z u|-;have H:({l with proof:=C! Y}:aM).out.length<=549755813888:=M;let⟨f,a2⟩:=F? ({l with proof:=C! Y}:aM);simp only at k z u|-;rw[a2]at u H|-;have X:=A? H;obtain⟨S,B⟩:∃S:aM×Bool,(if L=0 then(lS f [C],C?)else(f,H!))=S:=⟨_,rfl⟩;rw[B];have N:=A? B;unfold ptr;go_in;go_wp2_with fail;apply O.mono;rintro e w1 ⟨rfl,rfl⟩;go_wp2_with fail;apply k.mono;rintro e w1 ⟨rfl,j,a7⟩;let⟨a9,aa⟩:=u w1 j a7;have a0:=ak (P! w1.heap.size w1) (.cells #[A! C.code,A! C.id,D? C.value,D? C.name] 104);let⟨j1,j2⟩:=a9.below a0;let⟨W,a4⟩:=F?<|w1.alloc (.cells #[A! C.code,A! C.id,D? C.value,D? C.name] 104);have n:=aO.new w1 104 #[A! C.code,A! C.id,D? C.value,D? C.name];rw[a4]at j1 j2 n;have am:=n.k 0;have an:=n.k 1;have ao:=n.k 2;have ap:=n.k 3;have I:=A?<|aa.trans j2;unfold ic aK;by_cases E:L=0
 .subst E;have d:=N.out;rw[G? rfl]at d;have y:=A? d.symm;have V:=A?<|K W _ f ⟨x,j1⟩ C z X;have ab:=A? (cI.below (t:=t) (b:=b) (l:=f) ⟨x,j1⟩<|ak (P! W.heap.size W) (.cells #[A! C.code,A! C.id,D? C.value,D? C.name] 104)).2;go_wp2_with fail;apply V.mono;rintro e al ⟨rfl,ac,Z,a8⟩;have J:=A?<|(I.trans ab).trans a8;go_wp2;go_ret;rw[y.out];exact⟨rfl,_,Z,J⟩
 .have d:=N.out;rw[F! E]at d;have y:=A? d.symm;have ag:=Q?.2 E;go_wp2;go_ret;rw[y.out];exact⟨by first|rfl|rw[HQ.out],_,⟨x,j1⟩,I⟩
end
theorem O3(o:Int)(h:cM w G t b x l)(i:l.proof=L?):G! E? 122 #[ptr b,A! o] w (GS t b (kr l o) G w):=by
 have hpf:x.pf=none:=by
  have:=h.pf;rw[i]at this;cases e:x.pf with
  |none=>rfl
  |some m=>rw[e]at this;exact this.elim
 have n:kr l o=(l,H!):=by unfold kr Cg;rw[i];rfl
 rw[n];have c:w.cell? (B? b 1)=C! (.pointer L?):=mdm;have u:=h.blk.lt;unfold ptr;go_in;go_wp2_with fail;refine d! (I7 _) ?_;go_wp2_with fail;refine M! (LZ _) λg s=>?_;let⟨r,d⟩:=h.below<|ak s (.cells xad 104);go_wp2;go_ret;exact⟨rfl,_,⟨x,r⟩,d⟩
theorem Sq{N r:Nat}{i:Int}(e:Int)(h:cI w G t b l)(c:t≠[])(o:di N r i l)(u:N<=1099511627776)(s:l.out.length<=549755813888):
 G! E? 122 #[ptr b,A! e] w (GS t b (kr l e) G w):=by
 obtain⟨x,h⟩:=h;cases n:l.proof with
 |none=>exact O3 e h n
 |some m=>
  cases d:m.proved with
  |true=>exact Ja e h c n d o.an ⟨o.a0,by have:=o.a1;omega⟩ s
  |false=>exact O1 e h c n d (o.pf m n) s
theorem Es(a c:List UInt8):bytesOf a++bytesOf c=bytesOf (a++c):=by
 apply mcK;simp[bytesOf]
def cV(e:List<|List UInt8)(j:Nat):List<|Int×List UInt8:=(e.take j).filterMap λx=>if(cK x).2.2=0 then C! ((cK x).1,(cK x).2.1)else L?
theorem oo(e:List<|List UInt8)(j:Nat)(o:j<e.length):cV e (j+1)=cV e j++(if(cK e[j]).2.2=0 then[((cK e[j]).1,(cK e[j]).2.1)]else[]):=by
 unfold cV;rw[u! o,mdV];congr 1;rw[ύ,ϟ];by_cases h:(cK e[j]).2.2=0
 .simp only[h,t!]
 .simp only[h,q?]
theorem pO(e:List<|List UInt8)(j:Nat):(cV e j).length<=j:=by
 unfold cV;apply Z? (bbO _ _);rw[w!];omega
theorem DF:∀(l:List UInt8),∀p∈cut l,p.length<=l.length
 |[],p,o=>by
  unfold cut at o;rw[j?]at o;subst o;exact Y? _
 |c::l,p,o=>by
  have i:=DF l;unfold cut at o;split at o
  .rcases n!.1 o with rfl|o
   .exact S! _
   .have:=i p o;exact baN
  .split at o
   .rw[j?]at o;subst o;simp
   .rename_i q n e;rcases n!.1 o with rfl|o
    .have:=i q (by rw[e];exact x! ..);rw[V!,V!];omega
    .have:=i p (by rw[e];exact τ _ o);exact baN
theorem Pe(l:List UInt8):∀p∈yx l,p.length<=l.length:=λp e=>DF l p<|List.mem_of_mem_tail<|List.dropLast_subset _ (List.mem_filter.1 e).1
theorem Xd(l:List UInt8):(yx l).length<=l.length:=by
 exact nak
theorem SA(l:List UInt8):(sJ l).length<=l.length:=DF l _<|List.getLast_mem _
def aaJ(t:Tag)(b:Nat)(r:aM×List (Int×List UInt8))(G:Nat->Tag)(w:D!)(e:Ending)(i:D!):Prop:=
 ∃v o,e=.returned v/\oy sQ o free i v r.2/\cI i o t b r.1/\Step (aq t) G w o i
def rP(W wr:D!)(u:I?)(e:List<|Int×List UInt8):Prop:=jd sQ wr u e/\∀k,u.ownBlock=C! k->W.heap.size<=k/\k<wr.heap.size
theorem zW{w:D!}{o:Nat}{a:Option Addr}{n c:Nat}{l:List ByteArray}(h:qi w o (J! a n c) l)(j:Nat)(r:j<l.length):
 ∃g,a=C! (B? g 0)/\w.cell? (B? g j)=C! (D? l[j]):=by
 rcases h.2 with⟨_,f⟩|⟨g,m,i,u,y,s,k,v,q,d⟩
 .omega
 .cases u;refine⟨g,rfl,?_⟩
  have e:i[j]? =(l.map Value.string)[j]? :=by
   rw[<-d,bat,G? B!];simp
  simp[World.cell?,s,e,r]
def J'(t:Tag)(b:Nat)(G:Nat->Tag)(w:D!)(v:I?)(i:List ByteArray)(o:aM)(W:D!):Prop:=
 ∃e,cI W e t b o/\Step (aq t) G w e W/\qi W w.heap.size v i
theorem SB{w o:D!}{e:Nat}{v:I?}{l:List ByteArray}(h:qi w e v l)(hb:K! w o):qi o e v l:=by
 exact naV
section
variable{v:I?}{ps:List ByteArray}(h:cM w1 G1 t b x l)(hs:Step (aq t) G w G1 w1)(ho:qi w1 w.heap.size v ps)(hb:b<w.heap.size)(R:List UInt8)
include h hs ho hb R
theorem DG:
 J' t b G w v ps {l with buffer:=R} (w1.setCell (B? b 7)<|D?<|bytesOf R):=by
 let⟨j1,j2⟩:=h.own (l':={l with buffer:=R}) (ay w1 b 7<|D?<|bytesOf R) ⟨rfl,rfl,rfl,rfl⟩<|h.blk.set 7 _ rfl;exact⟨_,⟨x,j1⟩,hs.trans j2,ownsRow_setCell_below ho hb _⟩
theorem Ka:
 J' t b G w v ps {l with buffer:=[]} ((w1.setCell (B? b 7)<|D?<|bytesOf R).setCell (B? b 7)<|D? ⟨#[]⟩):=by
 let⟨j1,j2⟩:=h.own (l':={l with buffer:=R}) (ay w1 b 7<|D?<|bytesOf R) ⟨rfl,rfl,rfl,rfl⟩<|h.blk.set 7 _ rfl;exact DG j1 (hs.trans j2) (ownsRow_setCell_below ho hb _) hb []
end
theorem GY(l:aM)(s:List UInt8):(gL l s).1={l with buffer:=if 6144<(Nt<|l.buffer++s).length then[]else Nt (l.buffer++s)}:=rfl
theorem Pf(s:List UInt8)(h:cI w G t b l)(he:Env w G ml)(ht:t≠[])(hbf:l.buffer.length<=6144)(hs:s.length<=65536):
 Calls prog 117 #[ptr b,.string<|bytesOf s] w (aaJ t b (gL l s) G w):=by
 obtain⟨x,h⟩:=h;have c7:=h.blk.k 7;have cU:=h.blk.lt;have aaK:=Es l.buffer s;have hFB:=GY l s
 have hF2:(gL l s).2=cV (yx<|l.buffer++s) (yx<|l.buffer++s).length:=by
  unfold cV;rw[v!];rfl
 obtain⟨FL,hFL⟩:∃FL,gL l s=FL:=⟨_,rfl⟩;rw[hFL]at hFB hF2|-;have hal:(l.buffer++s).length<=71680:=by rw[X!];omega
 have hRL:Nt (l.buffer++s)=if(sJ<|l.buffer++s).length<(l.buffer++s).length then 126::sJ (l.buffer++s)else sJ (l.buffer++s):=rfl
 obtain⟨A,hA⟩:∃A,l.buffer++s=A:=⟨_,rfl⟩;rw[hA]at aaK hFB hF2 hal hRL;have xV:=A?<|QU (bytesOf A) ml w bbe he.m;have hA2:(bytesOf A).data.toList=A:=rfl;rw[hA2]at xV;have Yi:=Pe A;have hgl:=Xd A;have hrl:=SA A;obtain⟨PS,hPS⟩:∃PS,yx A=PS:=⟨_,rfl⟩;rw[hPS]at xV hF2 Yi hgl;obtain⟨R0,hR0⟩:∃R0,sJ A=R0:=⟨_,rfl⟩;rw[hR0]at xV hRL hrl;have HGP:=A? Yi;have HF2:=A? hF2;have HFB:=A? hFB;have SC:=A? hRL;have hsA:=aA A;have hsR:=aA R0;obtain⟨BA,hBA⟩:∃BA,bytesOf A=BA:=⟨_,rfl⟩;obtain⟨BR,hBR⟩:∃BR,bytesOf R0=BR:=⟨_,rfl⟩;rw[hBA]at xV aaK hsA;rw[hBR]at xV hsR;have HBR:=A? hBR;obtain⟨nP,hnP⟩:∃nP,PS.length=nP:=⟨_,rfl⟩;have Xe:=A? hnP;rw[hnP]at hgl;obtain⟨B7,hB7⟩:∃B7,bytesOf l.buffer=B7:=⟨_,rfl⟩;obtain⟨BS,hBS⟩:∃BS,bytesOf s=BS:=⟨_,rfl⟩;rw[hB7,hBS]at aaK;rw[hB7]at c7;rw[hBS]
 have hcs:¬9223372036854775807<B7.size+BS.size:=by
  have e1:(B7++BS).size=B7.size+BS.size:=N!;rw[aaK,hsA]at e1;omega
 unfold ptr;go_in;go_wp2_with fail;refine xV.mono ?_;rintro e w1 ⟨v,rfl,hown,hb1⟩;obtain⟨va,vc,rfl⟩:=hown.form;have RU:(PS.map bytesOf).length=nP:=by rw[g!];exact Xe
 rw[RU];obtain⟨k1,k2⟩:=h.below hb1;have c71:=k1.blk.cell 7;have f71:=k1.blk.frozen 7;obtain⟨v7,c71⟩:∃v,w1.cell? (B? b 7)=some v:=⟨_,k1.blk.cell 7⟩;by_cases hlt:R0.length<A.length
 .have hd1:=b! hlt;have UJ:=A? hlt;go_wp2_with fail;refine(FJ _).mono ?_;rintro e w2 ⟨rfl,hb2⟩;obtain⟨i1,i2⟩:=k1.below hb2;have I2:=A?<|k2.trans i2;have HO2:=A?<|SB hown hb2;obtain⟨v72,c72⟩:∃v,w2.cell? (B? b 7)=some v:=⟨_,i1.blk.cell 7⟩;have f72:=i1.blk.frozen 7;have ag6:bytesOf [126]++BR=bytesOf (126::R0):=by rw[<-HBR.out,Es];rfl
  have hsF:(bytesOf (126::R0)).size=R0.length+1:=by rw[aA,V!]
  obtain⟨BF,hBF⟩:∃BF,bytesOf (126::R0)=BF:=⟨_,rfl⟩;rw[hBF]at ag6 hsF;have HBF:=A? hBF;have hs1:(bytesOf [126]).size=1:=rfl;have ajD:¬9223372036854775807<1+R0.length:=B!;by_cases kZ:6144<(126::R0).length
  .have afj:decide (6144<R0.length+1)=true:=b! mcF;have afk:decide ((6144:Int)<↑R0.length+1)=true:=b! mcC
   have HM0:J' t b G w (.slice va (PS.map bytesOf).length vc) (PS.map bytesOf) FL.1<|(w2.setCell (B? b 7) (.string BF)).setCell (B? b 7) (.string ⟨#[]⟩):=by
    rw[HFB.out,SC.out,G? UJ.out,G? kZ,<-HBF.out];exact Ka i1 I2 HO2 cU _
   obtain⟨W,hW⟩:∃W,(w2.setCell (B? b 7) (.string BF)).setCell (B? b 7) (.string ⟨#[]⟩)=W:=⟨_,rfl⟩;exact mae
  .have afj:decide (6144<R0.length+1)=false:=W? mcF;have afk:decide ((6144:Int)<↑R0.length+1)=false:=W? mcC
   have HM0:J' t b G w (.slice va (PS.map bytesOf).length vc) (PS.map bytesOf) FL.1<|w2.setCell (B? b 7) (.string BF):=by
    rw[HFB.out,SC.out,G? UJ.out,F! kZ,<-HBF.out];exact DG i1 I2 HO2 cU _
   obtain⟨W,hW⟩:∃W,w2.setCell (B? b 7) (.string BF)=W:=⟨_,rfl⟩;exact mae
 .have hd1:=W? hlt;have UJ:=A? hlt;by_cases kZ:6144<(R0).length
  .have afj:=b! mcF;have afk:decide ((6144:Int)<↑R0.length)=true:=b! mcC
   have HM0:J' t b G w (.slice va (PS.map bytesOf).length vc) (PS.map bytesOf) FL.1<|(w1.setCell (B? b 7) (.string BR)).setCell (B? b 7) (.string ⟨#[]⟩):=by
    rw[HFB.out,SC.out,F! UJ.out,G? kZ,<-HBR.out];exact Ka k1 k2 hown cU _
   obtain⟨W,hW⟩:∃W,(w1.setCell (B? b 7) (.string BR)).setCell (B? b 7) (.string ⟨#[]⟩)=W:=⟨_,rfl⟩;exact mae
  .have afj:=W? mcF;have afk:decide ((6144:Int)<↑R0.length)=false:=W? mcC
   have HM0:J' t b G w (.slice va (PS.map bytesOf).length vc) (PS.map bytesOf) FL.1<|w1.setCell (B? b 7) (.string BR):=by
    rw[HFB.out,SC.out,F! UJ.out,F! kZ,<-HBR.out];exact DG k1 k2 hown cU _
   obtain⟨W,hW⟩:∃W,w1.setCell (B? b 7) (.string BR)=W:=⟨_,rfl⟩;exact mae
