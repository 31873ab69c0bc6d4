/- Walks and plain laws. -/
import Derived.Test.YtncddkcponjlpaaGreatDoorK05
set_option linter.unusedVariables false
set_option linter.unusedSimpArgs false
set_option maxHeartbeats 0
set_option maxRecDepth 99999
namespace Go.Proofs.YtncddkcponjlpaaGreatDoor
open Go.RowKit Go.Proofs.Tryz
open Go renaming World→D!,Value→I?,Calls→G!,IntKind→ncy
open Go.RowKit renaming Hid→E!
open Decidable renaming decide→K?
open Option renaming some→C!,none→L?
open Bool renaming true→C?,false→H!
open Go.Proofs.Tryz renaming prog→E?
variable{P:Prop}
section
open Go.RowKit Go.Crc
theorem aw{W t:D!}(h:Below W.heap.size W t){a:Addr}{v:I?}(e:W.cell? a=C! v):t.cell? a=C! v:=(h.cell (h! e)).trans e
def jM(p:Int):Bool:=K? (1<=p)&&K? (p<=65535)&&p%2==1&&(p/256)%2==0
theorem su(p:Int)(w:D!):G! E? 189 #[.int .i64 p] w λe s=>e=.returned (H? (jM p))/\w=s:=by
 have r:bits BinOp.and IntKind.i64 p 1=p%2:=KM p 1 B!;have l:bits BinOp.and IntKind.i64 (p/256) 1=(p/256)%2:=KM _ 1 B!;by_cases o:1<=p
 .by_cases i:p<=65535
  .by_cases t:p%2=1
   .have hr:E! (jM p=((p/256)%2==0)):=A? (by simp[jM,o,i,t]);have n:=κ.2 t;go_wp2;go_ret;exact⟨baC,rfl⟩
   .have hr:E! (jM p=H!):=A? (by simp[jM,o,i,t]);have n:=Q?.2 t;go_wp2;go_ret;exact⟨baC,rfl⟩
  .have hr:E! (jM p=H!):=A? (by simp[jM,i]);go_wp2;go_ret;exact⟨baC,rfl⟩
 .have hr:E! (jM p=H!):=A? (by simp[jM,o]);go_wp2;go_ret;exact⟨baC,rfl⟩
theorem Nr(W:D!)(k:Nat)(a b c d:Int)(e:W.cell? ⟨k,0,L?⟩=C! (.int .u8 a))(t:W.cell? ⟨k,1,L?⟩=C! (.int .u8 b))(o:W.cell? ⟨k,2,L?⟩=C! (.int .u8 c))(n:W.cell? ⟨k,3,L?⟩=C! (.int .u8 d)):
 (convert 64 9 (J! (C! ⟨k,0,L?⟩) 4 4)).run E? W=.ok (D? (strOfNums [a,b,c,d])) W:=
 bcE W _ _ underlying64 underlying5 k 0 4 4 [a,b,c,d] rfl (λi s=>by
  match i,s with
  |0,_=>simpa using e
  |1,_=>simpa using t
  |2,_=>simpa using o
  |3,_=>simpa using n) _ underlying9
theorem age(W:D!)(k:Nat)(a b:Int)(e:W.cell? ⟨k,0,L?⟩=C! (.int .u8 a))(t:W.cell? ⟨k,1,L?⟩=C! (.int .u8 b)):
 (convert 64 9 (J! (C! ⟨k,0,L?⟩) 2 2)).run E? W=.ok (D? (strOfNums [a,b])) W:=
 bcE W _ _ underlying64 underlying5 k 0 2 2 [a,b] rfl (λi o=>by
  match i,o with
  |0,_=>simpa using e
  |1,_=>simpa using t) _ underlying9
def aE(p:Int):UInt8:=UInt8.ofNat (p%256).toNat
def FP(p:Int):List UInt8:=[255,3,aE (p/256),aE p]
def frameT(p:Int)(d:List UInt8)(m:Int):List UInt8×Int:=
 if jM p=H! then([],303)else if 2048<d.length then([],304)else([126]++mz m (put (FP p++d))++[126],0)
theorem YT(p:Int)(d:ByteArray)(m:Int)(w:World)(hd:d.size<=maxLen):
 Calls prog 213 #[.agg #[.int .i64 p,.string d],.int .i64 m] w λe w'=>
  e=.returned (.tuple #[.string (bytesOf (frameT p d.data.toList m).1),.int .i64 (frameT p d.data.toList m).2])/\Below w.heap.size w w':=by
 unfold maxLen at hd;by_cases hp:jM p=true
 .by_cases hl:2048<d.size
  .have hr:Hid (frameT p d.data.toList m=([],304)):=by unfold frameT;rw[F! (by rw[hp];decide),G? (by rw[bK];exact hl)];exact rfl
   go_in
   go_wp2_with fail;refine(su _ _).mono ?_;rintro e w1 ⟨rfl,rfl⟩;rw[hp];go_wp2;go_ret2;exact⟨baC,R!⟩
  .have hr:Hid (frameT p d.data.toList m=([126]++mz m (put (FP p++d.data.toList))++[126],0)):=by unfold frameT;rw[F! (by rw[hp];decide),F! (by rw[bK];exact hl)];exact rfl
   have Hp:=A? hp;have hcv:=Nr;go_in;go_wp2_with fail;refine(su _ _).mono ?_;rintro e w1 ⟨rfl,rfl⟩;rw[Hp.out];go_wp2_with fail;have n1:¬9223372036854775807<4+d.size:=B!;have HS:Hid ((strOfNums [255,3,p/256%256,p%256]++d).size=4+d.size):=by rw[mcG,ν];exact rfl
   have hs4:(strOfNums [255,3,p/256%256,p%256]).size=4:=ν _;have hf1:(bytesOf [126]).size=1:=rfl
   go_region_held3 (λw'=>w'.cell? ⟨w.heap.size,1,none⟩=some (.string d)) (first|exact aw hb4 baI|exact aw hb3 baI|exact aw hb2 baI|go_keep)
    (first
      |(go_at_call 155;refine(FJ _).mono ?_;rintro e w2 ⟨rfl,hb2⟩)
      |(go_at_call 230;refine(KZ _ _ ?_).mono ?_;(unfold maxLen;rw[HS.out];omega);rintro e w3 ⟨rfl,hb3⟩)
      |(go_at_call 251;refine(YG _ _ _ ?_).mono ?_;(rw[aA,FO,X!,bK,bK,hs4];omega);rintro e w4 ⟨rfl,hb4⟩;generalize HT:mz m _=T;have hT:T.length<=4108:=(by rw[<-HT];refine Z? (B6 _ _) ?_;rw[fY,FO,X!,bK,bK,hs4];omega);have n2:¬9223372036854775807<1+(bytesOf T).size:=bbe;have n3:¬9223372036854775807<1+(bytesOf T).size+1:=bbe;have n5:¬9223372036854775807<=1+(bytesOf T).size:=bbe;have HHT:=A? HT))
   go_wp2
   go_ret2;refine⟨?_,by repeat(first|exact P! _ _|apply ak|apply aQ|refine seqB ?_ baI)⟩;rw[hr.out];show Ending.returned (Value.tuple #[Value.string (bytesOf [126]++bytesOf T++bytesOf [126]),Value.int .i64 0])=_;rw[l7,l7,<-HHT.out];rfl
 .have hp':jM p=false:=by simpa using hp
  have hr:Hid (frameT p d.data.toList m=([],303)):=by unfold frameT;rw[G? hp'];exact rfl
  go_in
  go_wp2_with fail;refine(su _ _).mono ?_;rintro e w1 ⟨rfl,rfl⟩;rw[hp'];go_wp2;go_ret2;exact⟨baC,R!⟩
end
section
open Go.RowKit Go.Crc
def yw(u:List UInt8):Int×List UInt8×Int:=
 if u.take 2≠[255,3]then(0,[],302)else
 if jM ((u.getD 2 0).toNat*256+(u.getD 3 0).toNat:Nat)=H! then(0,[],303)else
 if 2052<u.length then(0,[],304)else(((u.getD 2 0).toNat*256+(u.getD 3 0).toNat:Nat),u.drop 4,0)
def cK(l:List UInt8):Int×List UInt8×Int:=
 if(bu l).2≠0\/(bu l).1.length<6 then(0,[],300)else
 if(DY (bu l).1).2≠0 then(0,[],301)else yw (DY (bu l).1).1
theorem Dm:∀(l r:List UInt8),un l=C! r->r.length<=l.length
 |[],r,h=>by simp[un]at h;subst h;exact Y? _
 |[c],r,h=>by
  by_cases e:c=125
  .subst e;simp[un]at h
  .rw[FM e]at h;simp[un]at h;subst h;simp
 |c::d::l,r,h=>by
  by_cases e:c=125
  .subst e;rw[Ul]at h;obtain⟨o,t,rfl⟩:=Option.map_eq_some_iff.1 h;have:=Dm l o t;simp;omega
  .rw[FM e]at h;obtain⟨o,t,rfl⟩:=Option.map_eq_some_iff.1 h;have:=Dm (d::l) o t;simp at this|-;omega
theorem iy(l:List UInt8):(bu l).1.length<=l.length:=by
 unfold bu;split
 .simp
 .split
  .simp
  .rename_i r h;exact Dm _ _ h
theorem Dn{t:List UInt8}(h:¬(DY t).2≠0):(DY t).1.length+2=t.length:=by
 unfold DY at h|-;by_cases e:t.length<2
 .rw[G? e]at h;exact absurd I! h
 .rw[F! e]at h|-;by_cases o:put (t.take<|t.length-2)=t
  .rw[G? o];simp;omega
  .rw[F! o]at h;exact absurd I! h
def pF(r:Int×List UInt8×Int):Value:=.tuple #[.agg #[A! r.1,D?<|bytesOf r.2.1],A! r.2.2]
section
variable(s:ByteArray)(w:D!)(hs:s.size<=140737488355328)
include s w hs
theorem agf(e:(bu s.data.toList).2≠0):
 G! E? 156 #[D? s] w (S? w<|pF<|cK s.data.toList):=by
 have o:=iy s.data.toList;rw[bK]at o;have hr:E!<|cK s.data.toList=(0,[],300):=by unfold cK;rw[G? (.inl e)];exact rfl
 have i:=ϒ.2 e;clear e;go_in;go_wp2_with fail;refine M! (qV _ _ hs) λw1 hb1=>?_;have k0:=aw hb1 (a:=B? w.heap.size 0) (v:=A! 0) χ;have k1:=aw hb1 (a:=B? w.heap.size 1) (v:=D? ⟨#[]⟩) χ;have n:w1.frozen? (B? w.heap.size 0)=false:=((iP hb1).2 _ _ N!).trans Γ;have r:w1.frozen? (B? w.heap.size 1)=false:=((iP hb1).2 _ _ N!).trans Γ;have l:w.heap.size<w1.heap.size:=bbH;have hB1:=seqB R! hb1;clear hb1;generalize(bu s.data.toList).2=d at i|-;generalize(bu s.data.toList).1=t at*
 exact nbe
theorem agh(o:(bu s.data.toList).2=0)(n:(bu s.data.toList).1.length<6):
 G! E? 156 #[D? s] w (S? w<|pF<|cK s.data.toList):=by
 have i:=iy s.data.toList;rw[bK]at i;have hr:E!<|cK s.data.toList=(0,[],300):=by unfold cK;rw[G? (.inr n)];exact rfl
 have e:=A? o;clear o;go_in;go_wp2_with fail;refine M! (qV _ _ hs) λw1 hb1=>?_;have k0:=aw hb1 (a:=B? w.heap.size 0) (v:=A! 0) χ;have k1:=aw hb1 (a:=B? w.heap.size 1) (v:=D? ⟨#[]⟩) χ;have r:w1.frozen? (B? w.heap.size 0)=false:=((iP hb1).2 _ _ N!).trans Γ;have l:w1.frozen? (B? w.heap.size 1)=false:=((iP hb1).2 _ _ N!).trans Γ;have c:w.heap.size<w1.heap.size:=bbH;have hB1:=seqB R! hb1;clear hb1;rw[e.out];clear e;generalize(bu s.data.toList).1=t at*
 have d:=aA t;exact nbe
theorem agi(h1:(bu s.data.toList).2=0)(h2:¬(bu s.data.toList).1.length<6)(n:(DY (bu s.data.toList).1).2≠0):
 G! E? 156 #[D? s] w (S? w<|pF<|cK s.data.toList):=by
 have d:=iy s.data.toList;rw[bK]at d;have hr:E!<|cK s.data.toList=(0,[],301):=by unfold cK;rw[F! bbS,G? n];exact rfl
 have l:=A? h1;have f:=ϒ.2 n;go_in;go_wp2_with fail;refine M! (qV _ _ hs) λw1 hb1=>?_;have k0:=aw hb1 (a:=B? w.heap.size 0) (v:=A! 0) χ;have k1:=aw hb1 (a:=B? w.heap.size 1) (v:=D? ⟨#[]⟩) χ;have o:w1.frozen? (B? w.heap.size 0)=false:=((iP hb1).2 _ _ N!).trans Γ;have i:w1.frozen? (B? w.heap.size 1)=false:=((iP hb1).2 _ _ N!).trans Γ;have r:w.heap.size<w1.heap.size:=bbH;have c:=seqB R! hb1;rw[l.out];generalize(bu s.data.toList).1=t at*
 have g:=aA t;go_wp2_with fail;refine M! (sj _ _ bcu) λb e=>?_;rw[fY];replace k0:=aw e k0;replace k1:=aw e k1;replace o:=((iP e).2 _ _ r).trans o;replace i:=((iP e).2 _ _ r).trans i;have m:=seqB c e;generalize(DY t).2=y at*
 generalize(DY t).1=u at*
 go_wp2
 refine V? (v:=pF (0,[],301)) mgn rfl ⟨bbf,?_⟩;exact(m.setCell O? _).setCell O? _
theorem agj(h1:(bu s.data.toList).2=0)(h2:¬(bu s.data.toList).1.length<6)(e o i n:UInt8)(r:List UInt8)(h3:DY (bu s.data.toList).1=(e::o::i::n::r,0))(l:e≠255):
 G! E? 156 #[D? s] w (S? w<|pF<|cK s.data.toList):=by
 have d:=iy s.data.toList;rw[bK]at d
 have hr:E!<|cK s.data.toList=(0,[],302):=by
  unfold cK;rw[F! bbS,F! bcm,h3];unfold yw;rw[G?<|by intro h;injection h with a b;exact l a];exact rfl
 have f:r.length+6<=140737488355328:=mbP;have H1:=A? h1;have H3:=A? h3;have u:∀h,(bytesOf (e::o::i::n::r))[0]'h=e:=λ_=>rfl;have m:(bytesOf (e::o::i::n::r)).size=r.length+4:=bam;have c:((e.toNat:Int) !=255)=true:=QP l;exact nam
theorem agk(h1:(bu s.data.toList).2=0)(h2:¬(bu s.data.toList).1.length<6)(e o i:UInt8)(r:List UInt8)(h3:DY (bu s.data.toList).1=(255::e::o::i::r,0))(n:e≠3):
 G! E? 156 #[D? s] w (S? w<|pF<|cK s.data.toList):=by
 have l:=iy s.data.toList;rw[bK]at l
 have hr:E!<|cK s.data.toList=(0,[],302):=by
  unfold cK;rw[F! bbS,F! bcm,h3];unfold yw;rw[G?<|by intro h;injection h with a b;injection b with b c;exact n b];exact rfl
 have g:r.length+6<=140737488355328:=mbP;have H1:=A? h1;have H3:=A? h3;have u:∀h,(bytesOf (255::e::o::i::r))[0]'h=255:=λ_=>rfl;have m:∀h,(bytesOf (255::e::o::i::r))[1]'h=e:=λ_=>rfl;have f:(bytesOf (255::e::o::i::r)).size=r.length+4:=bam;have d:((e.toNat:Int) !=3)=true:=QP n;exact nam
end
theorem Cc(e t:UInt8):bits BinOp.or IntKind.i64 ((e.toNat:Int)*256) (t.toNat:Int)=((e.toNat*256+t.toNat:Nat):Int):=by
 have o:=e.toNat_lt;have i:=t.toNat_lt;have:=A6 (e.toNat*256) t.toNat B! B!;rw[nat_join 8 (e.toNat*256) t.toNat B! B!]at this;simpa using this
theorem aeP(a b c d:UInt8)(r:List UInt8):(bytesOf (a::b::c::d::r)).extract 4 (r.length+4)=bytesOf r:=by
 apply QF;rw[extract_toList];simp[bytesOf]
section
variable(s:ByteArray)(w:D!)(hs:s.size<=140737488355328)(h1:(bu s.data.toList).2=0)(h2:¬(bu s.data.toList).1.length<6)(c2 c3:UInt8)(r:List UInt8)(h3:DY (bu s.data.toList).1=(255::3::c2::c3::r,0))
include s w hs h1 h2 c2 c3 r h3
theorem agl(h4:jM ((c2.toNat:Int)*256+(c3.toNat:Int))=H!):
 G! E? 156 #[D? s] w (S? w<|pF<|cK s.data.toList):=by
 have m:=iy s.data.toList;rw[bK]at m
 have hr:E!<|cK s.data.toList=(0,[],303):=by
  unfold cK;rw[F! bbS,F! bcm,h3];unfold yw;rw[F! N!,G? mcD];exact rfl
 have O:r.length+6<=140737488355328:=mbP;have d:=A? h1;have c:=A? h3;have y:∀h,(bytesOf (255::3::c2::c3::r))[0]'h=255:=λ_=>rfl;have b:∀h,(bytesOf (255::3::c2::c3::r))[1]'h=3:=λ_=>rfl;have j:∀h,(bytesOf (255::3::c2::c3::r))[2]'h=c2:=λ_=>rfl;have q:∀h,(bytesOf (255::3::c2::c3::r))[3]'h=c3:=λ_=>rfl;have z:(bytesOf (255::3::c2::c3::r)).size=r.length+4:=bam;have S:=Cc c2 c3;have E:=c2.toNat_lt;have A:=c3.toNat_lt;have N:=aeP 255 3 c2 c3 r;have u:=A? h4;go_in;go_wp2_with fail;refine M! (qV _ _ hs) λw1 hb1=>?_;have k0:=aw hb1 (a:=B? w.heap.size 0) (v:=A! 0) χ;have k1:=aw hb1 (a:=B? w.heap.size 1) (v:=D? ⟨#[]⟩) χ;have n:w1.frozen? (B? w.heap.size 0)=false:=((iP hb1).2 _ _ N!).trans Γ;have l:w1.frozen? (B? w.heap.size 1)=false:=((iP hb1).2 _ _ N!).trans Γ;have i:w.heap.size<w1.heap.size:=bbH;have g:=seqB R! hb1;rw[d.out];have I:(bytesOf (bu s.data.toList).1).size=(bu s.data.toList).1.length:=aA _;go_wp2_with fail;refine M! (sj _ _ bcu) λH o=>?_;rw[fY];replace k0:=aw o k0;replace k1:=aw o k1;replace n:=((iP o).2 _ _ i).trans n;replace l:=((iP o).2 _ _ i).trans l;have hB2:=seqB g o;have tN:=Z! i o.size;rw[c.out];generalize(bu s.data.toList).1=t at*
 go_wp2
 go_region;go_wp2_with fail;refine d! (su _ _) ?_;rw[u.out];go_wp2;refine V? (v:=pF (0,[],303)) na4 rfl ⟨bbf,?_⟩;exact mda
theorem agm(h4:jM ((c2.toNat:Int)*256+(c3.toNat:Int))=C?)(E:2048<r.length):
 G! E? 156 #[D? s] w (S? w<|pF<|cK s.data.toList):=by
 have m:=iy s.data.toList;rw[bK]at m
 have hr:E!<|cK s.data.toList=(0,[],304):=by
  unfold cK;rw[F! bbS,F! bcm,h3];unfold yw;rw[F! N!,F! mcD,G? p!];exact rfl
 have I:r.length+6<=140737488355328:=mbP;have d:=A? h1;have c:=A? h3;have y:∀h,(bytesOf (255::3::c2::c3::r))[0]'h=255:=λ_=>rfl;have b:∀h,(bytesOf (255::3::c2::c3::r))[1]'h=3:=λ_=>rfl;have j:∀h,(bytesOf (255::3::c2::c3::r))[2]'h=c2:=λ_=>rfl;have q:∀h,(bytesOf (255::3::c2::c3::r))[3]'h=c3:=λ_=>rfl;have z:(bytesOf (255::3::c2::c3::r)).size=r.length+4:=bam;have L:=Cc c2 c3;have A:=c2.toNat_lt;have O:=c3.toNat_lt;have H:=aeP 255 3 c2 c3 r;have u:=A? h4;go_in;go_wp2_with fail;refine M! (qV _ _ hs) λw1 hb1=>?_;have k0:=aw hb1 (a:=B? w.heap.size 0) (v:=A! 0) χ;have k1:=aw hb1 (a:=B? w.heap.size 1) (v:=D? ⟨#[]⟩) χ;have n:w1.frozen? (B? w.heap.size 0)=false:=((iP hb1).2 _ _ N!).trans Γ;have l:w1.frozen? (B? w.heap.size 1)=false:=((iP hb1).2 _ _ N!).trans Γ;have i:w.heap.size<w1.heap.size:=bbH;have g:=seqB R! hb1;rw[d.out];have S:(bytesOf (bu s.data.toList).1).size=(bu s.data.toList).1.length:=aA _;go_wp2_with fail;refine M! (sj _ _ bcu) λD o=>?_;rw[fY];replace k0:=aw o k0;replace k1:=aw o k1;replace n:=((iP o).2 _ _ i).trans n;replace l:=((iP o).2 _ _ i).trans l;have hB2:=seqB g o;have tN:=Z! i o.size;rw[c.out];generalize(bu s.data.toList).1=t at*
 go_wp2
 go_region;have N:=aA r;go_wp2_with fail;refine d! (su _ _) ?_;rw[u.out];go_wp2;refine V? (v:=pF (0,[],304)) na4 rfl ⟨bbf,?_⟩;exact mda
theorem agn(h4:jM ((c2.toNat:Int)*256+(c3.toNat:Int))=C?)(E:¬2048<r.length):
 G! E? 156 #[D? s] w (S? w<|pF<|cK s.data.toList):=by
 have m:=iy s.data.toList;rw[bK]at m
 have hr:E!<|cK s.data.toList=(((c2.toNat*256+c3.toNat:Nat):Int),r,(0:Int)):=by
  unfold cK;rw[F! bbS,F! bcm,h3];unfold yw;rw[F! N!,F! mcD,F! p!];exact rfl
 have d:=A? h1;have c:=A? h3;have y:∀h,(bytesOf (255::3::c2::c3::r))[0]'h=255:=λ_=>rfl;have b:∀h,(bytesOf (255::3::c2::c3::r))[1]'h=3:=λ_=>rfl;have j:∀h,(bytesOf (255::3::c2::c3::r))[2]'h=c2:=λ_=>rfl;have q:∀h,(bytesOf (255::3::c2::c3::r))[3]'h=c3:=λ_=>rfl;have z:(bytesOf (255::3::c2::c3::r)).size=r.length+4:=bam;have H:=Cc c2 c3;have A:=c2.toNat_lt;have O:=c3.toNat_lt;have S:=aeP 255 3 c2 c3 r;have u:=A? h4;go_in;go_wp2_with fail;refine M! (qV _ _ hs) λw1 hb1=>?_;have k0:=aw hb1 (a:=B? w.heap.size 0) (v:=A! 0) χ;have k1:=aw hb1 (a:=B? w.heap.size 1) (v:=D? ⟨#[]⟩) χ;have n:w1.frozen? (B? w.heap.size 0)=false:=((iP hb1).2 _ _ N!).trans Γ;have l:w1.frozen? (B? w.heap.size 1)=false:=((iP hb1).2 _ _ N!).trans Γ;have i:w.heap.size<w1.heap.size:=bbH;have g:=seqB R! hb1;rw[d.out];have N:(bytesOf (bu s.data.toList).1).size=(bu s.data.toList).1.length:=aA _;go_wp2_with fail;refine M! (sj _ _ bcu) λL o=>?_;rw[fY];replace k0:=aw o k0;replace k1:=aw o k1;replace n:=((iP o).2 _ _ i).trans n;replace l:=((iP o).2 _ _ i).trans l;have hB2:=seqB g o;have tN:=Z! i o.size;rw[c.out];generalize(bu s.data.toList).1=t at*
 go_wp2
 go_region;have I:=aA r;go_wp2_with fail;refine d! (su _ _) ?_;rw[u.out];go_wp2;refine V? (v:=pF (((c2.toNat*256+c3.toNat:Nat):Int),r,(0:Int))) na4 rfl ⟨bbf,?_⟩;exact mda
end
theorem Cd(s:ByteArray)(w:D!)(n:s.size<=140737488355328):
 G! E? 156 #[D? s] w (S? w<|pF<|cK s.data.toList):=by
 by_cases i:(bu s.data.toList).2=0
 .by_cases d:(bu s.data.toList).1.length<6
  .exact agh s w n i d
  .by_cases m:(DY (bu s.data.toList).1).2=0
   .obtain⟨c,l,e,o,r,k⟩:∃c l e o r,(DY (bu s.data.toList).1).1=c::l::e::o::r:=by
     have v:=Dn (t:=(bu s.data.toList).1) (by simp[m])
     match h:(DY (bu s.data.toList).1).1 with
     |c::l::e::o::r=>exact⟨_,_,_,_,_,rfl⟩
     |[]|[_]|[_,_]|[_,_,_]=>rw[h]at v;simp at v;omega
    have u:DY (bu s.data.toList).1=(c::l::e::o::r,0):=by rw[<-k,<-m]
    by_cases g:c=255
    .subst g;by_cases y:l=3
     .subst y;cases f:jM ((e.toNat:Int)*256+(o.toNat:Int))with
      |false=>exact agl s w n i d e o r u f
      |true=>
       by_cases b:2048<r.length
       .exact agm s w n i d e o r u f b
       .exact agn s w n i d e o r u f b
     .exact agk s w n i d l e o r u y
    .exact agj s w n i d c l e o r u g
   .exact agi s w n i d m
 .exact agf s w n i
end
def Jx(n:Int):List UInt8:=[aE<|n/16777216,aE<|n/65536,aE<|n/256,aE n]
def words(e:List Int):List UInt8:=e.flatMap Jx
def ko(l:List UInt8)(i:Nat):Int:=((l.getD i 0).toNat:Int)
structure bF where
 b:Bool
 e:Bool
 seq:Int
 d:ByteArray
def eZ:bF:=⟨H!,H!,0,⟨#[]⟩⟩
def gh(e:Bool):Int:=if e then 4096 else 16777216
def firstM(f:bF):Int:=(if f.b then 128 else 0)+(if f.e then 64 else 0)
def eU(f:bF)(e:Bool):List UInt8×Int:=
 if f.seq<0\/gh e<=f.seq\/2048<f.d.size then([],801)
 else if e then([aE<|firstM f+f.seq/256,aE f.seq]++f.d.data.toList,0)
 else([aE<|firstM f,aE<|f.seq/65536,aE<|f.seq/256,aE f.seq]++f.d.data.toList,0)
def Bc(e:Bool):Nat:=if e then 2 else 4
def K3(e:Bool):Nat:=if e then 48 else 63
def YV(l:List UInt8)(e:Bool):Int:=if e then(ko l 0%64)*256+ko l 1 else((ko l 0%64)*256+ko l 1)*65536+ko l 2*256+ko l 3
def oM(l:List UInt8)(e:Bool):bF×Int:=
 if l.length<Bc e\/(l.getD 0 0).toNat&&&K3 e≠0 then(eZ,800)
 else if 2048<l.length-Bc e then(eZ,801)
 else(⟨K? (128<=(l.getD 0 0).toNat),decide (64<=(l.getD 0 0).toNat%128),YV l e,bytesOf<|l.drop<|Bc e⟩,0)
def iF:Nat->List UInt8->List bD->List bD×Int
 |0,_,_=>([],400)
 |n+1,l,e=>
  if l=[]then(e,0)
  else if l.length<2\/(l.getD 1 0).toNat<2\/l.length<(l.getD 1 0).toNat then([],400)
  else iF n (l.drop (l.getD 1 0).toNat) (e++[(ko l 0,bytesOf<|(l.take (l.getD 1 0).toNat).drop 2)])
def dO(l:List UInt8):List bD×Int:=if 2048<l.length then([],401)else iF (l.length+1) l []
def cB(l:List UInt8):Nat:=(l.getD 2 0).toNat*256+(l.getD 3 0).toNat
def dx(l:List UInt8):bg×Int:=
 if l.length<4 then(pE,500)
 else if cB l<4\/l.length<cB l then(pE,501)
 else if 2048<cB l then(pE,503)
 else if pX (ko l 0)=H! then(⟨ko l 0,ko l 1,[],bytesOf<|(l.take<|cB l).drop 4⟩,0)
 else if(dO<|(l.take<|cB l).drop 4).2≠0 then(pE,502)
 else(⟨ko l 0,ko l 1,(dO<|(l.take<|cB l).drop 4).1,⟨#[]⟩⟩,0)
structure cT where
 code:Int
 id:Int
 value:ByteArray
 name:ByteArray
def gM:cT:=⟨0,0,⟨#[]⟩,⟨#[]⟩⟩
def fR(c:Int):Bool:=K? (c=1)||K? (c=2)
def cx(c:cT):List UInt8×Int:=
 if c.code<1\/4<c.code\/dw c.id=H!\/fR c.code≠K? (c.value.size≠0)\/255<c.value.size then([],600)
 else if 253<c.name.size then([],601)
 else
  let s:=(if fR c.code then aE c.value.size::c.value.data.toList else[])++c.name.data.toList
  ([aE c.code,aE c.id,aE ((4+s.length:Nat)/256:Int),aE (4+s.length:Nat)]++s,0)
def iG(l:List UInt8):cT×Int:=
 if l.length<4 then(gM,600)
 else if ko l 0<1\/4<ko l 0\/cB l<4\/l.length<cB l then(gM,600)
 else
  let r:=(l.take<|cB l).drop 4
  if fR (ko l 0)then
   (if r=[]\/(r.getD 0 0).toNat=0\/r.length-1<(r.getD 0 0).toNat then(gM,600)
    else if 253<(r.drop<|1+(r.getD 0 0).toNat).length then(gM,601)
    else(⟨ko l 0,ko l 1,bytesOf ((r.take (1+(r.getD 0 0).toNat)).drop 1),bytesOf (r.drop (1+(r.getD 0 0).toNat))⟩,0))
  else if 253<r.length then(gM,601)else(⟨ko l 0,ko l 1,⟨#[]⟩,bytesOf r⟩,0)
structure cR where
 code:Int
 id:Int
 answer:Int
 opts:List bD
def sK:cR:=⟨0,0,0,[]⟩
def fS(c:Int):Bool:=K? (c%2=0)
def eV(c e:Int):Bool:=K? (1<=c)&&K? (c<=8)&&dw e
def dJ(b:cR):List UInt8×Int:=
 if eV b.code b.id=H!\/dw b.answer=H!\/(fS b.code=H!/\b.answer≠0)\/(cA b.opts).2≠0 then([],900)
 else
  let s:=(if fS b.code then[aE b.answer]else[])++(cA b.opts).1
  if 2048<4+s.length then([],901)else([aE b.code,aE b.id,aE ((4+s.length:Nat)/256:Int),aE (4+s.length:Nat)]++s,0)
def vg(c:Int):Nat:=if fS c then 5 else 4
def dK(l:List UInt8):cR×Int:=
 if l.length<4 then(sK,900)
 else if eV (ko l 0) (ko l 1)=H!\/cB l<vg (ko l 0)\/l.length<cB l then(sK,900)
 else
  let o:=dO<|(l.take<|cB l).drop<|vg<|ko l 0
  if o.2=400 then(sK,900)else if 2048<cB l then(sK,901)
  else(⟨ko l 0,ko l 1,if fS (ko l 0)then ko l 4 else 0,o.1⟩,0)
def cutFrom(e:Nat)(t o:Int):Nat->Nat->List UInt8->List bF
 |0,_,_=>[]
 |n+1,i,l=>if l=[]then[]else⟨K? (i=0),decide (l.length<=e),(o+i)%t,bytesOf<|l.take e⟩::cutFrom e t o n (i+1) (l.drop e)
def yA(s:ByteArray)(o:Nat)(e:Int)(t:Bool):List bF:=cutFrom o (gh t) e (s.size+1) 0 s.data.toList
structure fk where
 waits:List<|bF×Int
 drains:Bool
def jB:fk:=⟨[],H!⟩
structure bh where
 size:Int
 short:Bool
 seq:Int
 bB:List ByteArray
 cut:Int
 opn:KV Int
 lanes:KV fk
def yB(t:Int)(e:Bool):bh:=⟨t,e,0,[],0,[],[]⟩
def Bd(q:bh)(k:Int):bh×Int:=
 if k<0\/au q.lanes k=C? then(q,2000)else if 8<=q.lanes.length then(q,2001)else({q with lanes:=bI q.lanes k jB},0)
def aL(q:bh)(k:Int):fk:=(bt q.lanes k).getD jB
def pG(q:bh)(k:Int):bh×Int:=if au q.lanes k then({q with lanes:=bI q.lanes k {aL q k with drains:=C?}},0)else(q,2002)
def vk(q:bh)(k:Int):bh×Int:=
 if au q.lanes k=H! then(q,2002)else if(aL q k).waits≠[]then(q,2003)else({q with lanes:=dB q.lanes k},0)
def fN(q:bh):Int:=q.bB.length+q.opn.length
def ig(q:bh)(s:ByteArray):bh×Int:=
 if s.size<1\/1500<s.size then(q,2000)else if 64<=fN q then(q,2001)else({q with bB:=q.bB++[s]},0)
def jN(q:bh)(k:Int):List Int:=
 let e:=rI<|q.lanes.filter λx=> !x.2.drains
 e.filter (λx=>K? (k<=x))++e.filter (λx=>K? (x<k))
def fC(t:List Int)(n:Int)(e:KV fk)(x:bF×Nat):KV fk:=
 let k:=t.getD (x.2%t.length) 0;let l:=(bt e k).getD jB
 bI e k {l with waits:=l.waits++[(x.1,n)]}
def pY(q:bh)(k:Int):bh:=
 let s:=q.bB.headD ⟨#[]⟩;let e:=yA s (max q.size.toNat<|(s.size+63)/64) q.seq q.short
 {q with lanes:=(e.zipIdx).foldl (fC (jN q k) q.cut) q.lanes,opn:=bI q.opn q.cut e.length,cut:=q.cut+1,bB:=q.bB.tail,seq:=(q.seq+e.length)%gh q.short}
def bY(q:bh)(k:Int):bh×bF×Int:=
 if au q.lanes k=H! then(q,eZ,2002)
 else if(aL q k).waits≠[]then(q,((aL q k).waits.headD (eZ,0)).1,0)
 else if(aL q k).drains=C?\/q.bB=[]then(q,eZ,2003)
 else(pY q k,((aL (pY q k) k).waits.headD (eZ,0)).1,0)
def iR(q:bh)(k:Int):bh×bF×Int:=
 let r:=bY q k
 if r.2.2≠0 then(r.1,eZ,r.2.2)
 else
  let l:=aL r.1 k;let n:=(l.waits.headD (eZ,0)).2;let c:=(bt r.1.opn n).getD 0-1
  ({r.1 with lanes:=bI r.1.lanes k {l with waits:=l.waits.tail},opn:=if c=0 then dB (bI r.1.opn n c) n else bI r.1.opn n c},r.2.1,0)
def pH(q:bh)(k:Int):Int:=(aL q k).waits.length
structure aT where
 next:Int
 short:Bool
 most:Int
 links:KV Int
 held:KV bF
 lost:Int
def cG(j:aT):Int:=gh j.short
def Ce(t:Bool)(e:Int):aT:=⟨0,t,e,[],[],0⟩
def gN(j:aT)(s:Int):Int:=(s-j.next)%cG j
def eM(j:aT)(s:Int):Int:=if cG j/2<=gN j s then gN j s-cG j else gN j s
def qM(j:aT)(o:Int):Int:=(j.next+o)%cG j
def kH(j:aT)(k:Int):aT×Int:=
 if k<0\/au j.links k=C? then(j,1900)else if 8<=j.links.length then(j,1901)else({j with links:=bI j.links k (-1)},0)
def Aw(j:aT)(k:Int):aT×Int:=if au j.links k then({j with links:=dB j.links k},0)else(j,1902)
def fV(j:aT):Int:=
 if j.links=[]\/j.links.any (λx=>K? (x.2<0))=C? then-1 else j.links.foldl (λm x=>min m<|eM j x.2) (cG j)
def Af(j:aT)(o:Int):aT:=
 {j with held:=j.held.filter (λx=> !K? (gN j x.1<o)),lost:=j.lost+(j.held.filter<|λx=>K? (gN j x.1<o)).length,next:=qM j o}
def gK(j:aT):Nat->Nat->List UInt8->List UInt8×Int×Bool
 |0,i,_=>([],i,H!)
 |n+1,i,e=>match bt j.held (qM j i)with
  |none=>([],i,H!)
  |some f=>if 0<i/\f.b=C? then([],i,H!)else if f.e=C? then(e++f.d.data.toList,i+1,C?)else gK j n (i+1) (e++f.d.data.toList)
def ji(j:aT):Int:=j.held.foldl (λm x=>min m<|gN j x.1)<|cG j
def nB(j:aT):Nat->KV bF
 |0=>j.held
 |n+1=>dB (nB j n)<|qM j n
def fU(j:aT)(f:bF)(m:Int):aT×Option (List UInt8)×Bool:=
 if f.b=H! then(Af j 1,L?,C?)
 else
  let p:=gK j (j.held.length+1) 0 []
  if p.2.2 then({j with held:=nB j p.2.1.toNat,next:=qM j p.2.1},C! p.1,C?)
  else if au j.held (qM j p.2.1)then(Af j p.2.1,L?,C?)
  else if p.2.1<=m then(Af j<|p.2.1+1,L?,C?)
  else(j,L?,H!)
def mA(j:aT):aT×Option (List UInt8)×Bool:=if(j.held.length:Int)<=j.most then(j,L?,H!)else(Af j<|ji j+1,L?,C?)
def fA(j:aT):aT×Option (List UInt8)×Bool:=
 match bt j.held j.next with
 |some f=>if(fU j f<|fV j).2.2 then fU j f (fV j)else mA j
 |none=>if 0<=fV j then({j with next:=qM j (min (fV j+1)<|ji j)},L?,C?)else mA j
def told(e:List ByteArray)(o:Option<|List UInt8):List ByteArray:=match o with|some t=>e++[bytesOf t]|none=>e
def sM:Nat->aT->List ByteArray->aT×List ByteArray
 |0,j,e=>(j,e)
 |n+1,j,e=>if(fA j).2.2 then sM n (fA j).1 (told e (fA j).2.1)else((fA j).1,told e (fA j).2.1)
def rL(j:aT):Nat:=2*j.held.length+2
def rT(j:aT)(k:Int)(f:bF):aT×List ByteArray×Int:=
 if au j.links k=H! then(j,[],1902)
 else if(eU f j.short).2≠0 then(j,[],1900)
 else
  let j1:={j with links:=bI j.links k f.seq};let j2:=if au j1.held f.seq=C?\/cG j1/2<=gN j1 f.seq then{j1 with lost:=j1.lost+1}else{j1 with held:=bI j1.held f.seq f}
  ((sM (rL j2) j2 []).1,(sM (rL j2) j2 []).2,0)
structure dD where
 ask:cR
 left:Int
 aX:Bool
 tries:Int
 id:Int
 last:cR
def Cf(e:Bool)(t:Int):dD:=⟨sK,0,e,t,0,sK⟩
def fO(c:Int):Bool:=K? (c=1)||K? (c=3)||K? (c=5)
def sN(t:Bool)(o e:Int):Bool:=if K? (o=5) !=K? (e=5)then K? (e=5)else t
def YW(t:dD)(e:Int)(o:List bD):dD×cR×Int:=
 let b:cR:=⟨e,(t.id+1)%256,0,o⟩
 if(fO e=H!/\e≠7)\/(dJ b).2≠0 then(t,sK,2200)
 else if 0<t.left then(t,sK,2201)else({t with id:=b.id,ask:=b,left:=t.tries},b,0)
def kX(t:dD):dD×cR×Int:=
 if t.left=0 then(t,sK,2202)else if t.left=1 then({t with left:=0},sK,2202)else({t with left:=t.left-1},t.ask,0)
def eW(t:dD)(b:cR)(i:Bool):dD×List cR:=
 let e:=K? (0<t.left)&&fO t.ask.code;let o:=sN t.aX t.ask.code b.code
 (if e&& !o then{t with left:=0}else t,[⟨b.code+1,b.id,if e&&o then 1 else if i then 0 else 1,b.opts⟩])
def lw(t:dD)(b:cR)(e:Bool):dD×List cR×Int:=
 if(dJ b).2≠0 then(t,[],2200)
 else if fO b.code then((eW t b e).1,(eW t b e).2,0)
 else if b.code=7 then(t,[⟨8,b.id,0,[]⟩],0)
 else if 0<t.left/\b.code=t.ask.code+1/\b.id=t.ask.id then({t with left:=0,last:=b},[],0)
 else(t,[],0)
def gi(t:dD):Bool:=K? (0<t.left)
structure bM where
 expect:ByteArray
 bZ:ByteArray
 left:Int
 started:Bool
 proved:Bool
 name:ByteArray
 secret:ByteArray
 taken:Bool
 failed:Bool
def eO(s:ByteArray):Bool:=K? (1<=s.size)&&K? (s.size<=64)
def qX(o i t:ByteArray)(e:Int):Option bM:=
 if 32<o.size\/eO i=H!\/eO t=H!\/e<1\/10<e then L?
 else C! ⟨t,⟨#[]⟩,e,H!,H!,o,i,H!,H!⟩
def jj(p:bM):cT:=⟨1,1,p.bZ,p.name⟩
def kY(p:bM)(c:ByteArray):bM×cT×Int:=
 if c.size<1\/255<c.size then(p,gM,1600)else if p.started=C?\/p.failed=C? then(p,gM,1601)
 else({p with started:=C?,bZ:=c},jj {p with started:=C?,bZ:=c},0)
def gj(p:bM):bM×cT×Int:=
 if p.started=H!\/p.proved=C?\/p.failed=C? then(p,gM,1601)
 else if p.left=1 then({p with left:=0,failed:=C?},gM,1601)else({p with left:=p.left-1},jj p,0)
def gU(e:Int)(t o:ByteArray):ByteArray:=bytesOf<|KR (aE e::(t.data.toList++o.data.toList))
def cw(p:bM)(c:cT):bM×List cT×Int:=
 if(cx c).2≠0 then(p,[],1600)
 else if p.failed then(p,[],0)
 else if c.code=1 then(p,[⟨2,c.id,gU c.id p.secret c.value,p.name⟩],0)
 else if c.code=2 then
  (if p.started=H!\/c.id≠1 then(p,[],0)
   else if p.proved=H!/\c.value≠gU 1 p.expect p.bZ then({p with failed:=C?},[⟨4,1,⟨#[]⟩,⟨#[110,111]⟩⟩],0)
   else({p with proved:=C?},[⟨3,1,⟨#[]⟩,⟨#[111,107]⟩⟩],0))
 else if c.code=3 then({p with taken:=C?},[],0)
 else({p with failed:=C?},[],0)
structure xh where
 pieces:List<|List UInt8×Bool
 bytes:Int
 lost:Int
def YX:xh:=⟨[],0,0⟩
structure mB where
 p0:xh
 p1:xh
def kI:mB:=⟨YX,YX⟩
def mB.pipe(c:mB)(i:Int):xh:=if i=0 then c.p0 else c.p1
def mB.put(c:mB)(i:Int)(p:xh):mB:=if i=0 then{c with p0:=p}else{c with p1:=p}
structure aU where
 aV:Int
 most:Int
 last:Int
 up:KV mB
 sO:Int
def nM(n:Int):Bool:=K? (n=0)||K? (n=1)
def sw(e t:Int):aU:=⟨e,t,0,[],0⟩
def lz(s:aU)(a b:Int):aU×Int×Int:=
 if nM a=H!\/b≠1-a then(s,0,2500)else if s.aV<=s.up.length then(s,0,2501)
 else if 0<s.sO then({s with sO:=s.sO-1},0,2503)
 else({s with last:=s.last+1,up:=bI s.up (s.last+1) kI},s.last+1,0)
def iT(s:aU)(c:Int):aU×Int:=if au s.up c then({s with up:=dB s.up c},0)else(s,2502)
def eH(s:aU)(c e:Int):Int:=if au s.up c=H! then 2502 else if nM e=H! then 2500 else 0
def fP(s:aU)(c i:Int):xh:=((bt s.up c).getD kI).pipe i
def tO(s:aU)(c i:Int)(p:xh):aU:={s with up:=bI s.up c (((bt s.up c).getD kI).put i p)}
def kB(s:aU)(c i:Int)(d:ByteArray):aU×Int:=
 let p:=fP s c i
 if eH s c i≠0 then(s,eH s c i)
 else if s.most-p.bytes<d.size then(s,2500)
 else if 0<p.lost then(tO s c i {p with lost:=p.lost-1},0)
 else(tO s c i {p with pieces:=p.pieces++[(d.data.toList,H!)],bytes:=p.bytes+d.size},0)
def nr(s:aU)(c e:Int):aU×List UInt8×Int:=
 let p:=fP s c<|1-e
 if eH s c (1-e)≠0 then(s,[],eH s c<|1-e)
 else(tO s c (1-e) {p with pieces:=[],bytes:=0},p.pieces.flatMap (·.1),0)
def rM(s:aU)(c i:Int):aU×Int:=
 if eH s c i≠0 then(s,eH s c i)else(tO s c i {fP s c i with lost:=(fP s c i).lost+1},0)
def mR(d:List UInt8)(e:Nat):List UInt8:=if d=[]then d else d.set (e%(8*d.length)/8) (d.getD (e%(8*d.length)/8) 0^^^(1<<<UInt8.ofNat (e%(8*d.length)%8)))
def gV(e:Nat):List (List UInt8×Bool)->List (List UInt8×Bool)
 |[]=>[]
 |x::t=>if x.2 then x::gV e t else(mR x.1 e,C?)::t
def lX(s:aU)(c i e:Int):aU×Int:=
 if eH s c i≠0 then(s,eH s c i)else if e<0 then(s,2500)
 else(tO s c i {fP s c i with pieces:=gV e.toNat (fP s c i).pieces},0)
def vl(s:aU)(e:Int):aU×Int:=if e<0 then(s,2500)else({s with sO:=e},0)
def Uq(s:aU)(c:Int):Bool:=au s.up c
def qY(s:aU)(n:Int):Int:=if nM n then s.up.length else 0
