/- Walks and plain laws. -/
import Derived.Test.YtncddkcponjlpaaGreatDoorRows
import Derived.Test.YtncddkcponjlpaaGreatDoorK03
set_option linter.unusedVariables false
set_option linter.unusedSimpArgs false
set_option maxHeartbeats 0
set_option maxRecDepth 99999
namespace Go.Proofs.YtncddkcponjlpaaGreatDoor
open Go.RowKit Go.Proofs.Tryz
open Go renaming World→D!,Value→I?,Calls→G!,IntKind→ncy
open Go.RowKit renaming Hid→E!
open Decidable renaming decide→K?
open Option renaming some→C!,none→L?
open Bool renaming true→C?,false→H!
open Go.Proofs.Tryz renaming prog→E?
variable{P:Prop}
section
open Go.Shelf Go.RowKit Go.Proofs
def aeC:Go.Shelf.Ren:=⟨λ|138=>261|143=>262|146=>186|195=>290|197=>291|217=>263|218=>292|219=>293|221=>227|224=>305|225=>304|260=>303|266=>294|267=>306|268=>260|314=>310|n=>n,λ|0=>0|3=>3|4=>4|5=>5|9=>9|21=>21|31=>51|46=>65|51=>182|105=>373|119=>391|138=>393|139=>394|146=>395|n=>n,λ|1=>0|3=>1|4=>2|n=>n⟩
theorem acj:Go.Proofs.Lays.n146 E? aeC:={
 mixed:=M?
 f138:=func261.trans<|U! C! M?
 f143:=func262.trans<|U! C! M?
 f146:=func186.trans<|U! C! M?
 f195:=func290.trans<|U! C! M?
 f197:=func291.trans<|U! C! M?
 f217:=func263.trans<|U! C! M?
 f218:=func292.trans<|U! C! M?
 f219:=func293.trans<|U! C! M?
 f221:=func227.trans<|U! C! M?
 f224:=func305.trans<|U! C! M?
 f225:=func304.trans<|U! C! M?
 f260:=func303.trans<|U! C! M?
 f266:=func294.trans<|U! C! M?
 f267:=func306.trans<|U! C! M?
 f268:=func260.trans<|U! C! M?
 f314:=func310.trans<|U! C! M?
 t0:=underlying0
 a0:=isAgg0
 z0:=sizeOf0
 v0:=zeroValue0
 t3:=underlying3
 a3:=isAgg3
 z3:=sizeOf3
 v3:=zeroValue3
 t4:=underlying4
 a4:=isAgg4
 z4:=sizeOf4
 v4:=zeroValue4
 t5:=underlying5
 a5:=isAgg5
 z5:=sizeOf5
 v5:=zeroValue5
 t9:=underlying9
 a9:=isAgg9
 z9:=sizeOf9
 v9:=zeroValue9
 t21:=underlying21
 a21:=isAgg21
 z21:=sizeOf21
 v21:=zeroValue21
 t31:=underlying51
 a31:=isAgg51
 z31:=sizeOf51
 v31:=zeroValue51
 t46:=underlying65
 a46:=isAgg65
 z46:=sizeOf65
 v46:=zeroValue65
 t51:=underlying182
 a51:=isAgg182
 z51:=sizeOf182
 v51:=zeroValue182
 t105:=underlying373
 a105:=isAgg373
 z105:=sizeOf373
 v105:=zeroValue373
 t119:=underlying391
 a119:=isAgg391
 z119:=sizeOf391
 t138:=underlying393
 a138:=isAgg393
 z138:=sizeOf393
 v138:=zeroValue393
 t139:=underlying394
 a139:=isAgg394
 z139:=sizeOf394
 v139:=zeroValue394
 t146:=underlying395
 a146:=isAgg395
 z146:=sizeOf395
 v146:=zeroValue395
 g1:=M?
 g3:=M?
 g4:=M?}
def aeD:Go.Shelf.Ren:=⟨λ|145=>274|217=>263|219=>293|220=>301|224=>305|225=>304|266=>294|267=>306|314=>310|n=>n,λ|3=>3|4=>4|5=>5|9=>9|46=>65|51=>182|59=>359|146=>395|n=>n,λ|1=>0|n=>n⟩
theorem ack:Go.Proofs.Lays.n145 E? aeD:={
 mixed:=M?
 f145:=func274.trans<|U! C! M?
 f217:=func263.trans<|U! C! M?
 f219:=func293.trans<|U! C! M?
 f220:=func301.trans<|U! C! M?
 f224:=func305.trans<|U! C! M?
 f225:=func304.trans<|U! C! M?
 f266:=func294.trans<|U! C! M?
 f267:=func306.trans<|U! C! M?
 f314:=func310.trans<|U! C! M?
 t3:=underlying3
 a3:=isAgg3
 z3:=sizeOf3
 v3:=zeroValue3
 t4:=underlying4
 a4:=isAgg4
 z4:=sizeOf4
 v4:=zeroValue4
 t5:=underlying5
 a5:=isAgg5
 z5:=sizeOf5
 v5:=zeroValue5
 t9:=underlying9
 a9:=isAgg9
 z9:=sizeOf9
 v9:=zeroValue9
 t46:=underlying65
 a46:=isAgg65
 z46:=sizeOf65
 v46:=zeroValue65
 t51:=underlying182
 a51:=isAgg182
 z51:=sizeOf182
 v51:=zeroValue182
 t59:=underlying359
 a59:=isAgg359
 z59:=sizeOf359
 v59:=zeroValue359
 t146:=underlying395
 a146:=isAgg395
 z146:=sizeOf395
 v146:=zeroValue395
 g1:=M?}
def dm(w:D!)(m:Int):Prop:=J? w 0 0 m
def nL(l:List ByteArray):Array Value:=(l.map Value.string).toArray
theorem DW(s:ByteArray)(c:UInt8)(m:Int)(w:D!)(o:s.size<4294967281)(t:dm w m):
 G! E? 186 #[D? s,D?<|bytesOf [c]] w λe i=>
  e=.returned (J! (C!<|B? w.heap.size 0) (Lib.countB s (bytesOf [c])+1)<|Lib.countB s (bytesOf [c])+1)/\i=w.alloc (.cells (nL<|Lib.splitB (bytesOf [c]) 0 (Lib.countB s<|bytesOf [c]) s) 9):=
 Any.strings_Split acj M? s _ m w o t (by rw[aA];simp)
theorem Uf(s t:ByteArray)(m:Int)(w:D!)(i:s.size<4294967281)(o:dm w m):
 G! E? 274 #[D? s,D? t] w λe r=>e=.returned (.tuple #[D? ⟨(Lib.cut s.data.toList t.data.toList).1.toArray⟩,D? ⟨(Lib.cut s.data.toList t.data.toList).2.1.toArray⟩,H? (Lib.cut s.data.toList t.data.toList).2.2])/\∃n,r=w.drewN n:=
 Any.strings_Cut ack s t m w i o
end
def Ba:List Nat:=[3614090360,3905402710,606105819,3250441966,4118548399,1200080426,2821735955,4249261313,1770035416,2336552879,4294925233,2304563134,1804603682,4254626195,2792965006,1236535329,4129170786,3225465664,643717713,3921069994,3593408605,38016083,3634488961,3889429448,568446438,3275163606,4107603335,1163531501,2850285829,4243563512,1735328473,2368359562,4294588738,2272392833,1839030562,4259657740,2763975236,1272893353,4139469664,3200236656,681279174,3936430074,3572445317,76029189,3654602809,3873151461,530742520,3299628645,4096336452,1126891415,2878612391,4237533241,1700485571,2399980690,4293915773,2240044497,1873313359,4264355552,2734768916,1309151649,4149444226,3174756917,718787259,3951481745]
def YC:List Nat:=[7,12,17,22,5,9,14,20,4,11,16,23,6,10,15,21]
def xg(i:Nat):Nat:=YC.getD (i/16*4+i%4) 0
def Vo(x s:Nat):Nat:=(x*2^s%4294967296)|||(x/2^(32-s))
def QM(i b c d:Nat):Nat:=
 if i<16 then(b&&&c)|||((4294967295^^^b)&&&d)else if i<32 then(d&&&b)|||((4294967295^^^d)&&&c)else if i<48 then(b^^^c)^^^d else c^^^(b|||(4294967295^^^d))
def KP(i:Nat):Nat:=if i<16 then i else if i<32 then(5*i+1)%16 else if i<48 then(3*i+5)%16 else 7*i%16
structure Da where
 a:Nat
 b:Nat
 c:Nat
 d:Nat
deriving DecidableEq
def Da.ok(s:Da):Prop:=s.a<4294967296/\s.b<4294967296/\s.c<4294967296/\s.d<4294967296
def E3(w:List Nat)(i:Nat)(s:Da):Da:=⟨s.d,(s.b+Vo ((s.a+QM i s.b s.c s.d+Ba.getD i 0+w.getD (KP i) 0)%4294967296) (xg i))%4294967296,s.b,s.c⟩
def sH(w:List Nat)(h:Da)(j:Nat):Da:=(List.range j).foldl (λs i=>E3 w i s) h
theorem Ar(w:List Nat)(h:Da)(j:Nat):sH w h (j+1)=E3 w j (sH w h j):=by
 unfold sH;rw[bag,ϙ];rfl
theorem QN(w:List Nat)(i:Nat)(s:Da)(h:s.ok):(E3 w i s).ok:=by
 obtain⟨n,e,t,o⟩:=h;exact⟨o,x? _ I!,e,t⟩
theorem yq(w:List Nat)(s:Da)(h:s.ok):∀j,(sH w s j).ok
 |0=>h
 |j+1=>by rw[Ar];exact QN _ _ _<|yq w s h j
def fT(x:List UInt8)(j:Nat):Nat:=(x.getD (4*j) 0).toNat+256*(x.getD (4*j+1) 0).toNat+65536*(x.getD (4*j+2) 0).toNat+16777216*(x.getD (4*j+3) 0).toNat
def BW(x:List UInt8):List Nat:=(List.range 16).map<|fT x
theorem Vp(x:List UInt8)(j:Nat):fT x j<4294967296:=by
 unfold fT;have e:=(x.getD (4*j) 0).toNat_lt;have t:=(x.getD (4*j+1) 0).toNat_lt;have o:=(x.getD (4*j+2) 0).toNat_lt;have i:=(x.getD (4*j+3) 0).toNat_lt;omega
def Ui(s t:Da):Da:=⟨(s.a+t.a)%4294967296,(s.b+t.b)%4294967296,(s.c+t.c)%4294967296,(s.d+t.d)%4294967296⟩
theorem YD(s t:Da):(Ui s t).ok:=⟨x? _ I!,x? _ I!,x? _ I!,x? _ I!⟩
def zG(h:Da)(x:List UInt8):Da:=Ui h<|sH (BW x) h 64
def zH(n:Nat):Nat:=(119-n%64)%64
def KQ(n:Nat):List UInt8:=[n,n/256,n/65536,n/16777216,n/4294967296,n/1099511627776,n/281474976710656,n/72057594037927936].map λk=>UInt8.ofNat<|k%256
def BX(l:List UInt8):List UInt8:=l++(128::List.replicate (zH l.length) 0)++KQ (8*l.length)
theorem IA(n:Nat):(KQ n).length=8:=rfl
theorem B5(l:List UInt8):(BX l).length=l.length+1+zH l.length+8:=by
 simp only[BX,X!,V!,List.length_replicate,IA];omega
theorem Vq(l:List UInt8):(BX l).length%64=0:=by
 rw[B5];unfold zH;omega
def fw:Nat->Da->List UInt8->Da
 |0,h,_=>h
 |n+1,h,l=>fw n (zG h<|l.take 64)<|l.drop 64
def oz:Da:=⟨1732584193,4023233417,2562383102,271733878⟩
def le4(w:Nat):List UInt8:=[UInt8.ofNat<|w%256,UInt8.ofNat<|w/256%256,UInt8.ofNat<|w/65536%256,UInt8.ofNat<|w/16777216%256]
def Uj(s:Da):List UInt8:=le4 s.a++le4 s.b++le4 s.c++le4 s.d
def KR(l:List UInt8):List UInt8:=Uj<|fw ((BX l).length/64) oz<|BX l
section
open Go.Shelf Go.RowKit Go.Proofs
def YE:Go.Shelf.Ren:=⟨λ|167=>229|240=>252|276=>285|n=>n,λ|0=>0|4=>4|5=>5|9=>9|20=>20|37=>64|70=>100|72=>102|75=>296|80=>204|164=>369|n=>n,λ|n=>n⟩
theorem acn:Go.Proofs.Lays.n167 E? YE:={
 mixed:=M?
 f167:=func229.trans<|U! C! M?
 f240:=func252.trans<|U! C! M?
 f276:=func285.trans<|U! C! M?
 t0:=underlying0
 a0:=isAgg0
 z0:=sizeOf0
 v0:=zeroValue0
 t4:=underlying4
 a4:=isAgg4
 z4:=sizeOf4
 v4:=zeroValue4
 t5:=underlying5
 a5:=isAgg5
 z5:=sizeOf5
 v5:=zeroValue5
 t9:=underlying9
 a9:=isAgg9
 z9:=sizeOf9
 v9:=zeroValue9
 t20:=underlying20
 a20:=isAgg20
 z20:=sizeOf20
 v20:=zeroValue20
 t37:=underlying64
 a37:=isAgg64
 z37:=sizeOf64
 v37:=zeroValue64
 t70:=underlying100
 a70:=isAgg100
 z70:=sizeOf100
 v70:=zeroValue100
 t72:=underlying102
 a72:=isAgg102
 z72:=sizeOf102
 v72:=zeroValue102
 t75:=underlying296
 a75:=isAgg296
 z75:=sizeOf296
 v75:=zeroValue296
 t164:=underlying369
 a164:=isAgg369
 z164:=sizeOf369
 v164:=zeroValue369}
def Uk:Go.Shelf.Ren:=⟨λ|169=>139|n=>n,λ|0=>0|3=>3|5=>5|9=>9|37=>64|70=>100|72=>102|127=>263|n=>n,λ|n=>n⟩
theorem YF:Go.Proofs.Lays.n169 E? Uk:={
 mixed:=M?
 f169:=func139.trans<|U! C! M?
 t0:=underlying0
 a0:=isAgg0
 z0:=sizeOf0
 v0:=zeroValue0
 t3:=underlying3
 a3:=isAgg3
 z3:=sizeOf3
 v3:=zeroValue3
 t9:=underlying9
 a9:=isAgg9
 z9:=sizeOf9
 v9:=zeroValue9
 t37:=underlying64
 a37:=isAgg64
 z37:=sizeOf64
 v37:=zeroValue64
 t70:=underlying100
 a70:=isAgg100
 z70:=sizeOf100
 v70:=zeroValue100
 t72:=underlying102
 a72:=isAgg102
 z72:=sizeOf102
 v72:=zeroValue102
 t127:=underlying263
 a127:=isAgg263
 z127:=sizeOf263
 v127:=zeroValue263}
def aeI:Go.Shelf.Ren:=⟨λ|137=>228|217=>263|266=>294|n=>n,λ|3=>3|5=>5|9=>9|n=>n,λ|n=>n⟩
theorem aco:Go.Proofs.Lays.n137 E? aeI:={
 mixed:=M?
 f137:=func228.trans<|U! C! M?
 f217:=func263.trans<|U! C! M?
 f266:=func294.trans<|U! C! M?
 t3:=underlying3
 a3:=isAgg3
 z3:=sizeOf3
 v3:=zeroValue3
 t5:=underlying5
 a5:=isAgg5
 z5:=sizeOf5
 v5:=zeroValue5
 t9:=underlying9
 a9:=isAgg9
 z9:=sizeOf9
 v9:=zeroValue9}
theorem bx167:Go.Proofs.Builder.Extra E? YE:={
 sizeBuilder:=M?
 liesBuilder:=M?
 t5:=underlying5
 a5:=isAgg5
 z5:=sizeOf5
 v5:=zeroValue5
 infoByte:=M?
 cellsByte:=M?
 sizeByte:=M?
 neB5:=I!}
theorem aeJ:Go.Proofs.Builder.Extra E? Uk:={
 sizeBuilder:=M?
 liesBuilder:=M?
 t5:=underlying5
 a5:=isAgg5
 z5:=sizeOf5
 v5:=zeroValue5
 infoByte:=M?
 cellsByte:=M?
 sizeByte:=M?
 neB5:=I!}
theorem uX(B b:Nat)(t:List I?)(c:Int)(w:D!)(h:Lib.IsBuilder 102 5 B b t w)(n:t.length+1<=140737488355328)(i:B<=w.heap.size):
 G! E? 229 #[P? b,.int .u8 c] w λe o=>e=.returned .nilIface/\(Lib.BuilderAt 102 5 B b (P? b) (t++[.int .u8 c]) o/\Below B w o):=Any.Builder_WriteByte acn bx167 B b t c w h n i
theorem yt(B b:Nat)(l:List UInt8)(w:D!)(h:Lib.IsBuilder 102 5 B b (Lib.byteCells l) w)(t:B<=w.heap.size):
 G! E? 139 #[P? b] w λe o=>e=.returned (D? ⟨l.toArray⟩)/\Below B w o:=Any.Builder_String_any YF aeJ B b l w h t
theorem indexByte(s:ByteArray)(c:Int)(w:D!):
 G! E? 228 #[D? s,.int .u8 c] w (T! w<|A!<|Lib.indexByte s.data.toList c.toNat.toUInt8):=Any.strings_IndexByte aco s c w
end
def af8(m:Int)(c:Nat):Bool:=(m/2^c)%2==1
def qL(c:UInt8)(m:Int):Bool:=c==125||c==126||(decide (c.toNat<32)&&af8 m c.toNat)
def uz(m:Int)(c:UInt8):List UInt8:=if qL c m then[125,c^^^32]else[c]
def mz(m:Int)(l:List UInt8):List UInt8:=l.flatMap<|uz m
def un:List UInt8->Option (List UInt8)
 |[]=>C! []
 |125::r=>match r with
  |[]=>L?
  |c::r=>(un r).map ((c^^^32)::·)
 |c::r=>(un r).map (c::·)
def bu(l:List UInt8):List UInt8×Int:=
 if 126∈l then([],201)else match un l with
  |none=>([],200)
  |some r=>(r,0)
theorem KS(m:Int)(a b:List UInt8):mz m (a++b)=mz m a++mz m b:=by simp[mz]
theorem Au(m:Int)(c:UInt8):(uz m c).length<=2:=by unfold uz;split<;>simp
theorem B6(m:Int)(l:List UInt8):(mz m l).length<=2*l.length:=by
 induction l with
 |nil=>simp[mz]
 |cons c l t=>
  have e:mz m (c::l)=uz m c++mz m l:=by simp[mz]
  rw[e,X!,V!];have:=Au m c;omega
theorem QO(m:Int)(s:ByteArray)(k:Nat)(h:k<s.size):mz m (s.data.toList.take<|k+1)=mz m (s.data.toList.take k)++uz m s[k]:=by
 have e:s.data.toList.take (k+1)=s.data.toList.take k++[s[k]]:=by
  rw[u! bb4];rfl
 rw[e,KS];simp[mz]
theorem FI(c:UInt8)(m:Int)(w:D!):
 G! E? 284 #[.int .u8 (c.toNat:Int),A! m] w λe f=>e=.returned (H?<|qL c m)/\w=f:=by
 have g:=c.toNat_lt;by_cases t:c=125
 .have i:qL c m=true:=by subst t;rfl
  have n:((c.toNat:Int)==125)=true:=by subst t;rfl
  clear t;go_wp2;go_ret;exact⟨by rw[i];rfl,rfl⟩
 by_cases o:c=126
 .have i:qL c m=true:=by subst o;rfl
  have n:((c.toNat:Int)==125)=false:=by subst o;rfl
  have u:((c.toNat:Int)==126)=true:=by subst o;rfl
  clear t o;go_wp2;go_ret;exact⟨by rw[i];rfl,rfl⟩
 have y:c.toNat≠125:=λe=>t<|UInt8.toNat_inj.1 e;have b:c.toNat≠126:=λe=>o<|UInt8.toNat_inj.1 e;have n:((c.toNat:Int)==125)=false:=Q?.2 B!;have u:((c.toNat:Int)==126)=false:=Q?.2 B!;by_cases s:c.toNat<32
 .have i:qL c m=af8 m c.toNat:=by simp[qL,t,o,s]
  clear t o;go_in;have d:=A? i;clear i;have r:bits BinOp.and IntKind.i64 (m/2^c.toNat) 1=(m/2^c.toNat)%2:=KM _ 1 B!;have l:=A? r;clear r;go_wp2;go_ret;refine⟨?_,rfl⟩;show Ending.returned (Value.bool<|bits BinOp.and IntKind.i64 (m/2^c.toNat) 1==1)=_;rw[d.out,l.out];rfl
 .have i:qL c m=false:=by simp[qL,t,o,s]
  clear t o;exact d?
theorem Nh(c:UInt8):bits BinOp.xor IntKind.u8 (c.toNat:Int) 32=(((c^^^32).toNat:Nat):Int):=by
 have:=u8_xor_nat c.toNat 32 c.toNat_lt B!;rw[UInt8.toNat_xor];simpa using this
theorem QP{c d:UInt8}(h:c≠d):((c.toNat:Int) !=(d.toNat:Int))=true:=by
 rw[ϒ];intro e;exact h<|UInt8.toNat_inj.1 B!
theorem sI(l:List UInt8)(c:UInt8):Lib.byteCells l++[Value.int .u8 (c.toNat:Int)]=Lib.byteCells (l++[c]):=by simp[Lib.byteCells]
theorem YG(s:ByteArray)(m:Int)(w:D!)(S:2*s.size<=140737488355328):
 G! E? 251 #[D? s,A! m] w (S? w<|D?<|bytesOf<|mz m s.data.toList):=by
 have j:Lib.IsBuilder 102 5 w.heap.size w.heap.size (Lib.byteCells [])<|w.alloc (.cells xai 102):=Lib.fresh_isBuilder _ _ w;have t:K! w<|w.alloc (.cells xai 102):=R!;go_wp2;go_loopw[9] (λi wr=>∃k:Nat,k<=s.size/\i=A! k/\Lib.IsBuilder 102 5 w.heap.size w.heap.size (Lib.byteCells<|mz m<|s.data.toList.take k) wr/\K! w wr) (λi _=>s.size-(intOf i).toNat)
 case atStart=>exact⟨0,S! _,rfl,j,t⟩
 case round=>
  obtain⟨k,I,rfl,n,t⟩:=hrel
  have N:(Lib.byteCells<|mz m<|s.data.toList.take k).length<=2*k:=by
   rw[bax];have:=B6 m<|s.data.toList.take k;rw[w!]at this;omega
  by_cases q:k<s.size
  .have z:=QO m s k q;have g:=A? z;have l:=t.size;by_cases r:qL s[k] m=C?
   .have f:uz m s[k]=[125,s[k]^^^32]:=by unfold uz;rw[G? r]
    have c:=A? f;have d:=A? r;have R:=Nh s[k];go_wp2_with fail;apply(FI s[k] m _).mono;rintro e w1 ⟨rfl,rfl⟩;rw[d.out];go_wp2_with fail;apply(uX w.heap.size w.heap.size _ 125 _ n B! l).mono;rintro e A ⟨rfl,u,o⟩;have O:=o.size;go_wp2_with fail;apply(uX w.heap.size w.heap.size _ _ _ (.inr u) mc7 B!).mono;rintro e H ⟨rfl,y,E⟩;go_wp2;go_roundw
    case rel=>
     refine⟨k+1,B!,W!,.inr ?_,(t.trans o).trans E⟩;rw[g.out,c.out];have e:Lib.byteCells (mz m (s.data.toList.take k)++[125,s[k]^^^32])=Lib.byteCells (mz m<|s.data.toList.take k)++[Value.int .u8 125]++[Value.int .u8 ((s[k]^^^32).toNat:Int)]:=by simp[Lib.byteCells]
     rw[e];exact y
    case measure=>simp[intOf];omega
   .have b:qL s[k] m=false:=by simpa using r
    have f:uz m s[k]=[s[k]]:=by unfold uz;rw[F! r]
    have c:=A? f;have d:=A? b;go_wp2_with fail;apply(FI s[k] m _).mono;rintro e w1 ⟨rfl,rfl⟩;rw[d.out];go_wp2_with fail;apply(uX w.heap.size w.heap.size _ _ _ n B! l).mono;rintro e A ⟨rfl,u,o⟩;go_wp2;go_roundw
    case rel=>
     refine⟨k+1,B!,W!,.inr ?_,t.trans o⟩;rw[g.out,c.out,<-sI];exact u
    case measure=>simp[intOf];omega
  .obtain rfl:k=s.size:=B!;have l:=t.size;have e:s.data.toList.take s.size=s.data.toList:=u? N!;rw[e]at n;go_wp2_with fail;refine M! (yt w.heap.size w.heap.size _ _ n l) λw1 v=>?_;go_wp2;go_ret;exact⟨rfl,t.trans v⟩
theorem FJ(w:D!):G! E? 155 #[] w (S? w<|D?<|bytesOf [126]):=by
 have e:∀(w:D!) (a:Int),(convert 64 9<|J! (C!<|B? w.heap.size 0) 1 1).run E? (w.alloc (.cells #[.int .u8 a] 5))=.ok (D?<|strOfNums [a]) (w.alloc (.cells #[.int .u8 a] 5)):=
  λw a=>M7 w _ _ _ underlying64 underlying5 underlying9 [a] 1 rfl
 go_wp2
 go_ret;exact⟨rfl,R!⟩
theorem Vr(l:List UInt8):(126∈l/\0<=Lib.indexByte l 126)\/(126∉l/\Lib.indexByte l 126= -1):=by
 induction l with
 |nil=>right;simp[Lib.indexByte]
 |cons c l o=>
  by_cases h:c=126
  .left;subst h;simp[Lib.indexByte]
  .have t:=Q?.2 h;rcases o with⟨a,b⟩|⟨a,b⟩
   .left
    refine⟨by simp[a],?_⟩;simp only[Lib.indexByte,t,η,q?];rw[F! p!];omega
   .right
    refine⟨by simp[a];exact λe=>h e.symm,?_⟩;simp[Lib.indexByte,t,b]
def after(e:List UInt8)(r:Option<|List UInt8):Option<|List UInt8:=r.map (e++·)
theorem Vs(r:Option<|List UInt8):after [] r=r:=by cases r<;>rfl
theorem FK(e:List UInt8)(c:UInt8)(r:Option<|List UInt8):after e (r.map (c::·))=after (e++[c]) r:=by cases r<;>simp[after]
theorem E4(l:List UInt8)(k:Nat)(h:k<l.length):l.drop k=l[k]::l.drop (k+1):=bbT h
theorem FM{c:UInt8}(h:c≠125)(r:List UInt8):un (c::r)=(un r).map (c::·):=by
 conv=>lhs;unfold un
 split
 .rename_i e;simp at e
 .rename_i e;exact absurd (List.cons.inj e).1 h
 .rename_i e;obtain⟨rfl,rfl⟩:=List.cons.inj e;rfl
theorem Ul(c:UInt8)(r:List UInt8):un (125::c::r)=(un r).map ((c^^^32)::·):=by simp[un]
theorem aeL:un [125]=none:=by simp[un]
section
variable{l acc:List UInt8}
theorem YH{k:Nat}(h:k<l.length)(e:l[k]≠125)(t:un l=after acc (un<|l.drop k)):un l=after (acc++[l[k]]) (un<|l.drop<|k+1):=by
 rw[t,E4 l k h,FM e,FK]
theorem YI{k:Nat}(h:k+1<l.length)(e:l[k]=125)(t:un l=after acc (un<|l.drop k)):un l=after (acc++[l[k+1]^^^32]) (un<|l.drop<|k+2):=by
 rw[t,E4 l k B!,E4 l (k+1) h,e,Ul,FK]
theorem acp{k:Nat}(h:k+1=l.length)(e:l[k]=125)(t:un l=after acc (un<|l.drop k)):un l=none:=by
 rw[t,E4 l k B!,e,mb3 B!,aeL];rfl
theorem acq(e:un l=after acc (un<|l.drop l.length)):un l=C! acc:=by
 rw[e,List.drop_length];simp[un,after]
end
theorem qV(s:ByteArray)(w:D!)(G:s.size<=140737488355328):
 G! E? 187 #[D? s] w (S? w (.tuple #[D?<|bytesOf (bu s.data.toList).1,A! (bu s.data.toList).2])):=by
 rcases Vr s.data.toList with⟨u,c⟩|⟨u,c⟩
 .have m:bu s.data.toList=([],201):=by unfold bu;rw[G? u]
  have g:=A? m;clear m u;have D:(0:Int)<=Lib.indexByte s.data.toList (126:Int).toNat.toUInt8:=c;clear c;go_in;go_wp2_with fail;apply(indexByte _ _ _).mono;rintro e w1 ⟨rfl,rfl⟩;generalize Lib.indexByte s.data.toList (126:Int).toNat.toUInt8=Y at D|-;go_wp2;go_ret2;exact⟨by rw[g.out];rfl,P! _ _⟩
 .have A:Lib.IsBuilder 102 5 w.heap.size w.heap.size (Lib.byteCells [])<|w.alloc (.cells xai 102):=Lib.fresh_isBuilder _ _ w;have o:K! w<|w.alloc (.cells xai 102):=R!;have b:Lib.indexByte s.data.toList (126:Int).toNat.toUInt8= -1:=c;clear c;have O:=bK s;have f:=A? O;clear O
  have m:∀r,un s.data.toList=r->bu s.data.toList=match r with|none=>([],200)|some r=>(r,0):=by
   intro r h;unfold bu;rw[F! u,h]
  have g:=A? m;clear m u;go_in;go_wp2_with fail;apply(indexByte _ _ _).mono;rintro e w1 ⟨rfl,rfl⟩;rw[b];clear b;go_wp2;go_loopw[5] (λi wr=>∃(k:Nat) (d:List UInt8),k<=s.size/\i=A! k/\d.length<=k/\E! (un s.data.toList=after d (un<|s.data.toList.drop k))/\Lib.IsBuilder 102 5 w1.heap.size w1.heap.size (Lib.byteCells d) wr/\K! w1 wr) (λi _=>s.size-(intOf i).toNat)
  case atStart=>exact⟨0,[],S! _,rfl,Y? _,by rw[Vs];rfl,A,o⟩
  case round=>
   clear A o;obtain⟨k,d,M,rfl,R,v,q,o⟩:=hrel;have z:=o.size;have F:(Lib.byteCells d).length<=k:=by rw[bax];exact R
   by_cases b:k<s.size
   .by_cases n:s[k]=125
    .have N:((s[k].toNat:Int) !=125)=false:=by rw[n];rfl
     by_cases L:k+1=s.size
     .have S:((k:Int)+1==(s.size:Int))=true:=κ.2 B!;have t:=acp (by rw[f.out];exact L) n v.out;have l:=A? t;clear t n;go_wp2;go_ret2;exact⟨by rw[g _ l.out];rfl,o⟩
     .have S:((k:Int)+1==(s.size:Int))=false:=Q?.2 B!;have C:k+1<s.size:=B!;have t:=YI (by rw[f.out];exact C) n v.out;have l:=A? t;have W:=Nh s[k+1];clear t n;go_wp2_with fail;apply(uX w1.heap.size w1.heap.size _ _ _ q B! z).mono;rintro e E ⟨rfl,y,j⟩
      have I:Lib.BuilderAt 102 5 w1.heap.size w1.heap.size (P? w1.heap.size) (Lib.byteCells<|d++[s[k+1]^^^32]) E:=by
       rw[<-sI,UInt8.toNat_xor];exact y
      go_wp2
      go_roundw
      case rel=>exact⟨k+2,_,B!,W!,mc7,l,.inr I,o.trans j⟩
      case measure=>simp[intOf];omega
    .have N:((s[k].toNat:Int) !=125)=true:=by
      exact QP n
     have t:=YH (by rw[f.out];exact b) n v.out;have l:=A? t;clear t n;go_wp2_with fail;apply(uX w1.heap.size w1.heap.size _ _ _ q B! z).mono;rintro e E ⟨rfl,y,j⟩;rw[sI]at y;go_wp2;go_roundw
     case rel=>exact⟨k+1,_,B!,W!,mc7,l,.inr y,o.trans j⟩
     case measure=>simp[intOf];omega
   .obtain rfl:k=s.size:=B!;have t:=acq (by rw[f.out];exact v.out);have l:=A? t;clear t;go_wp2_with fail;refine M! (yt w1.heap.size w1.heap.size _ _ q z) λE H=>?_;go_wp2;go_ret2;exact⟨by rw[g _ l.out];rfl,o.trans H⟩
section
open Go.Shelf Go.RowKit Go.Proofs
theorem Vy(s:ByteArray)(m:Int)(w:D!)(o:s.size<4294967281)(t:dm w m):
 G! E? 186 #[D? s,D?<|bytesOf [126]] w λe i=>
  e=.returned (J! (C!<|B? w.heap.size 0) (Lib.countB s (bytesOf [126])+1)<|Lib.countB s (bytesOf [126])+1)/\i=w.alloc (.cells (nL<|Lib.splitB (bytesOf [126]) 0 (Lib.countB s<|bytesOf [126]) s) 9):=
 DW s 126 m w o t
end
def cut:List UInt8->List (List UInt8)
 |[]=>[[]]
 |c::l=>if c=126 then[]::cut l else match cut l with
  |[]=>[[c]]
  |p::e=>(c::p)::e
theorem YU(l:List UInt8):cut l≠[]:=by
 cases l with
 |nil=>simp[cut]
 |cons c l=>
  unfold cut;split
  .simp
  .split<;>simp
theorem FQ:∀l:List UInt8,Lib.splitK [126] 0 (Lib.count l [126]) l=cut l
 |[]=>by rw[Lib.count_miss<|by simp[Lib.index]];rfl
 |c::l=>by
  have n:=FQ l;by_cases h:c=126
  .subst h;have t:Lib.index (126::l) [126]=((0:Nat):Int):=by rw[Lib.index];simp[List.isPrefixOf]
   rw[Lib.count_cons_eq,Nat.add_comm,Lib.splitK,t];simp[cut,n]
  .have r:([126]:List UInt8).isPrefixOf (c::l)=false:=by simp[List.isPrefixOf,X? h]
   have t:Lib.index (c::l) [126]=if Lib.index l [126]== -1 then-1 else Lib.index l [126]+1:=by rw[Lib.index,r];simp
   rw[Lib.count_cons_ne _ _ _ h];unfold cut;rw[F! h,<-n];by_cases i:Lib.index l [126]= -1
   .rw[Lib.count_miss i];rfl
   .have d:=Lib.index_ge l [126];obtain⟨j,o⟩:∃j:Nat,Lib.index l [126]=j:=⟨(Lib.index l [126]).toNat,B!⟩;have s:Lib.index (c::l) [126]=((j+1:Nat):Int):=by rw[t,F! (λe=>i<|κ.1 e),o];omega
    rw[Lib.count_hit N! o,Nat.add_comm,Lib.splitK,Lib.splitK,s,o];simp;have:¬((j:Int)+1= -1):=B!;have:¬((j:Int)= -1):=B!;simp[*]
def yx(l:List UInt8):List<|List UInt8:=(cut l).tail.dropLast.filter<|λp=> !p.isEmpty
def sJ(l:List UInt8):List UInt8:=(cut l).getLast<|YU l
theorem wC(s:ByteArray):Lib.splitB (bytesOf [126]) 0 (Lib.countB s<|bytesOf [126]) s=(cut s.data.toList).map bytesOf:=by
 have h:=Lib.splitB_data (bytesOf [126]) 0 (Lib.countB s<|bytesOf [126]) s;have e:Lib.splitK (bytesOf [126]).data.toList 0 (Lib.countB s<|bytesOf [126]) s.data.toList=cut s.data.toList:=FQ _;rw[e]at h;rw[<-h,baG];have:(bytesOf∘λx:ByteArray=>x.data.toList)=id:=funext λx=>ox x;rw[this,mcw]
theorem FR(s:ByteArray):Lib.countB s (bytesOf [126])+1=(cut s.data.toList).length:=by
 have h:=U! List.length<|wC s;rw[Lib.splitB_all _ I! _ _ s rfl,g!]at h;exact h
theorem qi.mono{w:D!}{b e:Nat}{v:I?}{l:List ByteArray}(h:qi w b v l)(n:e<=b):qi w e v l:=by
 refine⟨h.1,?_⟩;rcases h.2 with i|⟨g,t,o,c,d,r⟩
 .exact .inl i
 .exact .inr ⟨g,t,o,c,Z? n d,r⟩
theorem Vz(l:List<|List UInt8)(k:Nat)(h:k<l.length):
 (l.take<|k+1).filter (λp=> !p.isEmpty)=(l.take k).filter (λp=> !p.isEmpty)++(if l[k].isEmpty then[]else[l[k]]):=by
 rw[u! h,baR];congr 1;cases l[k]<;>simp
theorem QU(s:ByteArray)(m:Int)(w:D!)(a1:s.size<4294967281)(g:dm w m):
 G! E? 154 #[D? s] w λe B=>∃v,e=.returned (.tuple #[v,D?<|bytesOf<|sJ s.data.toList])/\qi B w.heap.size v ((yx s.data.toList).map bytesOf)/\K! w B:=by
 let⟨t,l⟩:=F?<|cut s.data.toList;have F:=l▸YU _;have q:=FR s;have a0:=Lib.countB_le (bytesOf [126]) I! s.size s O?;have N:=wC s;have L:yx s.data.toList=t.tail.dropLast.filter (λp=> !p.isEmpty):=by unfold yx;rw[l]
 have Y:sJ s.data.toList=t.getLast F:=by unfold sJ;simp only[l]
 rw[L,Y];rw[l]at q N;clear L Y;let⟨n,M⟩:=F?<|Lib.countB s<|bytesOf [126];have R:=λw g=>Vy s m w a1 g;rw[N]at R;rw[M]at q a0 R;have a9:n+1<=9223372036854775807:=B!;have z:=A? l;have FT:=A? q;clear l N M q;go_in;go_wp2_with fail;refine M! (FJ _) λw1 C=>?_;go_wp2_with fail;refine(R _<|(C.cell<|h! g).trans g).mono ?_;rintro e y ⟨rfl,rfl⟩
 have hcell:∀j (h:j<t.length),(w1.alloc (.cells (nL<|t.map bytesOf) 9)).cell? (B? w1.heap.size j)=C! (D?<|bytesOf t[j]):=by
  intro j h;rw[j!];simp[nL,h]
 have f:=ak C (.cells (nL<|t.map bytesOf) 9);generalize w1.alloc (.cells (nL<|t.map bytesOf) 9)=y at hcell f|-;by_cases J:n=0
 .subst J
  obtain⟨x,rfl⟩:∃x,t=[x]:=by
   have:=FT.out
   match t,this with
   |[x],_=>exact⟨x,rfl⟩
  have o:bytesOf x=s:=by
   have h:=U! List.length<|wC s;rw[z.out]at h;have I:=wC s;rw[z.out]at I
   have u:Lib.countB s (bytesOf [126])=0:=by
    have:=FR s;rw[z.out]at this;simpa using this
   rw[u,Lib.splitB_zero]at I;simpa using I.symm
  go_wp2
  go_ret2;exact⟨Q!,by rw[List.getLast_singleton,o];rfl,qi.nil _ _,f⟩
 .have a4:1<=n:=B!;have a6:((n:Int)+1==1)=false:=by rw[Q?];omega
  go_wp2
  go_loopw[5,21] (λv i wr=>∃k:Nat,k<=n-1/\i=A! k/\qi wr y.heap.size v (((t.tail.dropLast.take k).filter<|λp=> !p.isEmpty).map bytesOf)/\K! y wr) (λ_ i _=>n-(intOf i).toNat)
  case atStart=>exact⟨0,S! _,rfl,qi.nil _ _,P! _ _⟩
  case round=>
   obtain⟨k,a5,rfl,r,d⟩:=hrel;by_cases a8:k<n-1
   .have Z:k<t.tail.dropLast.length:=mdB
    have a7:(((t.tail.dropLast.take k).filter<|λp=> !p.isEmpty).map bytesOf).length<=k:=by
     rw[g!];apply Z? (ϝ _ _);simp;omega
    have S:=Vz t.tail.dropLast k Z
    have G:t.tail.dropLast[k]=t[1+k]' mdB:=by
     rw[List.getElem_dropLast,List.getElem_tail];congr 1;omega
    have u:=(d.cell<|h!<|hcell (1+k) mdB).trans<|hcell (1+k) mdB;rw[<-G]at u;generalize t.tail.dropLast[k]=x at u S;have H:=A? S;clear S G;cases x with
    |nil=>
     have W:(bytesOf []).toList=[]:=dG _;go_wp2;go_roundw
     case rel=>exact⟨k+1,B!,W!,by rw[H.out];simpa using r,d⟩
     case measure=>simp[intOf];omega
    |cons b E=>
     have W:(bytesOf (b::E)).toList=b::E:=dG _;let⟨x,o⟩:=F?<|bytesOf (b::E);rw[o]at W u;go_wp2_with(at_builtin;apply Nd rfl _ _ rfl y _ _ x 1 r rfl rfl B! d;intro aa ab a2 K);go_roundw
     case rel=>exact⟨k+1,B!,W!,by rw[H.out];simpa[o]using a2,K⟩
     case measure=>simp[intOf];omega
   .obtain rfl:k=n-1:=B!;have Q:=(d.cell<|h!<|hcell n mcz).trans<|hcell n mcz;have D:t.tail.dropLast.take (n-1)=t.tail.dropLast:=u? (by simp[<-FT.out]);rw[D]at r
    have O:t.getLast F=t[n]' mcz:=by
     rw[List.getLast_eq_getElem];congr 1;rw[<-FT.out];omega
    let⟨x,o⟩:=F?<|t[n]' mcz;rw[o]at Q O;have X:=A? O;clear O o D;let⟨a3,A⟩:=F?<|(t.tail.dropLast.filter<|λp=> !p.isEmpty).map bytesOf;rw[A]at r;have V:=A? A;clear A;obtain⟨a,c,rfl⟩:=r.form;go_wp2;go_region;go_wp2;go_ret2;exact⟨J! a a3.length c,by rw[X.out];rfl,by rw[V.out];exact(r.mono f.size).below<|by repeat(first|exact P! _ _|apply aQ),by repeat(first|exact seqB f d|apply aQ)⟩
def jk:Nat->Int->Int->Int
 |0,d,_=>d
 |n+1,d,m=>if m/2<d then m else jk n (d*2) m
def qZ(t b m j:Int):Prop:=t<0\/62<t\/b<1\/4096<b\/m<b\/4096<m\/j<0
instance(t b m j:Int):Decidable<|qZ t b m j:=by unfold qZ;infer_instance
def mC(t b m j:Int):Int×Int:=if qZ t b m j then(0,1200)else(jk t.toNat b m-j%(jk t.toNat b m/4+1),0)
theorem oN{t b m j:Int}(h:qZ t b m j):mC t b m j=(0,1200):=G? h
theorem FU{t b m j:Int}(h:¬qZ t b m j):mC t b m j=(jk t.toNat b m-j%(jk t.toNat b m/4+1),0):=F! h
def Be(o t e:Int):Bool:=K? (64<=o)&&K? (o<=4096)&&K? (1<=e)&&K? (e<=6)&&K? (1<=t)&&K? (t<=e)
def nZ(e t o i:Int):Int:=min (max (e/t+if 0<e%t then 1 else 0) o) i
theorem ad8(x j:Int)(e:1<=x)(t:x<=4096)(o:0<=j):wrap64 (x-j%(x/4+1))=x-j%(x/4+1):=by
 have i:=bb1 j (b:=x/4+1) B!;have n:=maI j (b:=x/4+1) B!;exact bby _ ⟨B!,B!⟩
theorem VB(t b m j:Int)(w:D!)(I:j<=9223372036854775807):
 G! E? 184 #[A! t,A! b,A! m,A! j] w (T! w (.tuple #[A! (mC t b m j).1,A! (mC t b m j).2])):=by
 by_cases l:t<0
 .have HD:E!<|mC t b m j=(0,1200):=A? (oN (.inl l));exact bb8
 by_cases c:62<t
 .have HD:E!<|mC t b m j=(0,1200):=A? (oN (.inr (.inl c)));exact bb8
 by_cases s:b<1
 .have HD:E!<|mC t b m j=(0,1200):=A? (oN (.inr (.inr (.inl s))));exact bb8
 by_cases u:4096<b
 .have HD:E!<|mC t b m j=(0,1200):=A? (oN (.inr (.inr (.inr (.inl u)))));exact bb8
 by_cases f:m<b
 .have HD:E!<|mC t b m j=(0,1200):=A? (oN (.inr (.inr (.inr (.inr (.inl f))))));exact bb8
 by_cases g:4096<m
 .have HD:E!<|mC t b m j=(0,1200):=A? (oN (.inr (.inr (.inr (.inr (.inr (.inl g)))))));exact bb8
 by_cases y:j<0
 .have HD:E!<|mC t b m j=(0,1200):=A? (oN (.inr (.inr (.inr (.inr (.inr (.inr<|y)))))));exact bb8
 have HD:E!<|mC t b m j=(jk t.toNat b m-j%(jk t.toNat b m/4+1),0):=A?<|FU<|by unfold qZ;omega
 obtain⟨n,rfl⟩:∃n:Nat,t=n:=⟨t.toNat,B!⟩;have r:E!<|jk ((n:Int).toNat) b m=jk n b m:=A? rfl;have q:1<=b:=B!;have E:b<=m:=B!;have z:m<=4096:=B!;have R:n<=62:=B!;go_wp2;go_loop[10,40] (λd i=>∃(k:Nat) (x:Int),i=A! (k:Nat)/\d=A! x/\k<=n/\1<=x/\x<=m/\E! (jk (n-k) x m=jk n b m)) (λ_ i=>n-(intOf i).toNat)
 case atStart=>exact⟨0,b,rfl,rfl,S! _,q,E,A? rfl⟩
 case round=>
  obtain⟨k,x,rfl,rfl,N,A,H,o⟩:=hrel;by_cases S:k<n
  .by_cases kZ:m/2<x
   .have s:m.tdiv 2<x:=naW
    have e:E! (jk n b m=m):=A? (by
     rw[<-o.out,show n-k=(n-k-1)+1 from B!,jk,G? kZ])
    go_wp2
    go_ret2;exact⟨by rw[HD.out,r.out,e.out];exact U! (λv=>Ending.returned (.tuple #[A! v,A! 0]))<|ad8 m j B! z B!,rfl⟩
   .have s:¬m.tdiv 2<x:=naW
    have e:E! (jk (n-(k+1)) (x*2) m=jk n b m):=A? (by
     rw[<-o.out,show n-k=(n-(k+1))+1 from B!,jk,F! kZ])
    have O:x*2<=m:=B!;go_wp2;go_round
    case rel=>exact⟨k+1,x*2,W!,W!,B!,B!,O,e⟩
    case measure=>simp[intOf];omega
  .have e:E! (jk n b m=x):=A? (by
    rw[<-o.out,show n-k=0 from B!,jk])
   go_wp2
   go_ret2;exact⟨by rw[HD.out,r.out,e.out];exact U! (λv=>Ending.returned (.tuple #[A! v,A! 0]))<|ad8 x j A B! B!,rfl⟩
theorem FW(x a b:Int)(w:D!):G! E? 66 #[A! x,A! a,A! b] w (T! w<|H?<|K? (a<=x)&&K? (x<=b)):=by
 by_cases t:a<=x
 .by_cases o:x<=b
  .have e:(decide (a<=x)&&K? (x<=b))=true:=by simp[t,o]
   rw[e];exact d?
  .have e:(decide (a<=x)&&K? (x<=b))=false:=by simp[o]
   rw[e];exact d?
 .have e:(decide (a<=x)&&K? (x<=b))=false:=by simp[t]
  rw[e];exact d?
theorem VC(r a k:Int)(w:D!):G! E? 67 #[A! r,A! a,A! k] w (T! w<|H?<|Be r a k):=by
 have t:=λw=>FW r 64 4096 w;have i:=λw=>FW k 1 6 w;have n:=λw=>FW a 1 k w;have e:Be r a k=((decide (64<=r)&&K? (r<=4096))&&(decide (1<=k)&&K? (k<=6))&&(decide (1<=a)&&K? (a<=k))):=by unfold Be;simp only[Bool.and_assoc]
 let⟨s,d⟩:=F?<|K? (64<=r)&&K? (r<=4096);let⟨l,c⟩:=F?<|K? (1<=k)&&K? (k<=6);let⟨m,u⟩:=F?<|K? (1<=a)&&K? (a<=k);rw[d]at t e;rw[c]at i e;rw[u]at n e;rw[e];cases s
 .go_in
  go_wp2_with(go_at_call 66;apply(t _).mono;rintro e o ⟨rfl,rfl⟩);go_ret;exact⟨rfl,rfl⟩
 .cases l
  .go_in
   go_wp2_with fail;apply(t _).mono;rintro e o ⟨rfl,rfl⟩;go_wp2_with fail;apply(i _).mono;rintro e o ⟨rfl,rfl⟩;exact d?
  .go_in
   go_wp2_with fail;apply(t _).mono;rintro e o ⟨rfl,rfl⟩;go_wp2_with fail;apply(i _).mono;rintro e o ⟨rfl,rfl⟩;go_wp2_with fail;refine d! (n _) ?_;go_wp2;go_ret;exact⟨N!,rfl⟩
theorem QV(x r a k:Int)(w:D!)(e:0<=x)(m:x<=9223372036854775806)(c:1<=r):G! E? 126 #[A! x,A! r,A! a,A! k] w (T! w<|A!<|nZ x r a k):=by
 have u:¬r=0:=B!;have n:x.tdiv r=x/r:=mec e;have i:x.tmod r=x%r:=baB e;have s:0<=x/r:=Int.ediv_nonneg e B!;have l:=Int.ediv_le_self r e;have HT:E!<|nZ x r a k=min (max (x/r+if 0<x%r then 1 else 0) a) k:=A? rfl;let⟨q,o⟩:=F?<|x/r;let⟨z,d⟩:=F?<|x%r;rw[o]at n s l HT;rw[d]at i HT;by_cases t:0<z
 .rw[G? t]at HT;exact nae
 .rw[F! t]at HT;exact nae
def yF(e:Nat×Nat)(t:Nat):Prop:=e.2=0\/t<=e.1
def Dp(w:D!)(i:Nat)(v:I?)(l:List UInt8):Prop:=
 ∃g e t o,v=J! (C!<|B? g 0) l.length e/\i<=g/\w.heap[g]? =C! (.cells t 5 o)/\yF o e/\l.length<=e/\e<=maxLen/\t.size=e/\t.toList.take l.length=Lib.byteCells l
theorem Dp.form{w:D!}{e:Nat}{v:I?}{l:List UInt8}(h:Dp w e v l):∃g c,v=J! (C!<|B? g 0) l.length c/\l.length<=c/\c<=maxLen:=by
 obtain⟨g,t,n,s,rfl,r,d,u,o,i,_⟩:=h;exact⟨g,t,rfl,o,i⟩
theorem Dp.below{w i:D!}{e:Nat}{v:I?}{l:List UInt8}(h:Dp w e v l)(u:K! w i):Dp i e v l:=by
 obtain⟨g,n,s,d,m,c,o,r⟩:=h;exact⟨g,n,s,d,m,c,(u.block g (i!.1 o).1).trans o,r⟩
theorem Dp.cells{w:D!}{o g n c:Nat}{l:List UInt8}(h:Dp w o (J! (C!<|B? g 0) n c) l):∀j,j<l.length->w.cell? (B? g j)=C! (.int .u8 ((l.getD j 0).toNat:Int)):=by
 intro j t;obtain⟨f,u,i,m,d,y,s,b,v,k,q,r⟩:=h;cases d
 have e:i[j]? =(Lib.byteCells l)[j]? :=by
  rw[<-r,bat,G? t];simp
 simp[World.cell?,s,e,Lib.byteCells,t]
theorem Dp.conv(w:D!)(s:ByteArray)(e:Nat)(n:e<=w.heap.size)(r:s.size<=1000000)(W:D!):
 Dp (w.alloc (.cells (bytesRow s<|grownCap W s.size 0 5) 5 ((bytesRow s<|grownCap W s.size 0 5).size,(bytesRow s<|grownCap W s.size 0 5).size+1))) e (J! (C!<|B? w.heap.size 0) s.size<|grownCap W s.size 0 5) s.data.toList:=by
 have o:=grownCap_le W s.size 5;have i:=mdJ W s.size 0 5 bao
 have t:(bytesRow s<|grownCap W s.size 0 5).size=grownCap W s.size 0 5:=by
  unfold bytesRow;rw[Array.size_append,Array.size_map,mdk];show s.size+_=_;omega
 refine⟨w.heap.size,_,_,_,by rw[bK],n,c! _ _,.inr<|by rw[t];exact Y? _,by rw[bK];exact o,i,t,?_⟩;unfold bytesRow;rw[Array.toList_append,List.take_append_of_le_length N!,u? N!];simp[Lib.byteCells]
section
open Go.Shelf Go.RowKit Go.Proofs
def Y7:Go.Shelf.Ren:=⟨λ|166=>214|240=>252|276=>285|n=>n,λ|0=>0|3=>3|4=>4|5=>5|9=>9|20=>20|37=>64|70=>100|72=>102|75=>296|80=>204|164=>369|n=>n,λ|n=>n⟩
theorem acC:Go.Proofs.Lays.n166 E? Y7:={
 mixed:=M?
 f166:=func214.trans<|U! C! M?
 f240:=func252.trans<|U! C! M?
 f276:=func285.trans<|U! C! M?
 t0:=underlying0
 a0:=isAgg0
 z0:=sizeOf0
 v0:=zeroValue0
 t3:=underlying3
 a3:=isAgg3
 z3:=sizeOf3
 v3:=zeroValue3
 t4:=underlying4
 a4:=isAgg4
 z4:=sizeOf4
 v4:=zeroValue4
 t9:=underlying9
 a9:=isAgg9
 z9:=sizeOf9
 v9:=zeroValue9
 t20:=underlying20
 a20:=isAgg20
 z20:=sizeOf20
 v20:=zeroValue20
 t37:=underlying64
 a37:=isAgg64
 z37:=sizeOf64
 v37:=zeroValue64
 t70:=underlying100
 a70:=isAgg100
 z70:=sizeOf100
 v70:=zeroValue100
 t72:=underlying102
 a72:=isAgg102
 z72:=sizeOf102
 v72:=zeroValue102
 t75:=underlying296
 a75:=isAgg296
 z75:=sizeOf296
 v75:=zeroValue296
 t164:=underlying369
 a164:=isAgg369
 z164:=sizeOf369
 v164:=zeroValue369}
def Y8:Go.Shelf.Ren:=⟨λ|169=>139|n=>n,λ|0=>0|3=>3|5=>5|9=>9|37=>64|70=>100|72=>102|127=>263|n=>n,λ|n=>n⟩
theorem acD:Go.Proofs.Lays.n169 E? Y8:={
 mixed:=M?
 f169:=func139.trans<|U! C! M?
 t0:=underlying0
 a0:=isAgg0
 z0:=sizeOf0
 v0:=zeroValue0
 t3:=underlying3
 a3:=isAgg3
 z3:=sizeOf3
 v3:=zeroValue3
 t9:=underlying9
 a9:=isAgg9
 z9:=sizeOf9
 v9:=zeroValue9
 t37:=underlying64
 a37:=isAgg64
 z37:=sizeOf64
 v37:=zeroValue64
 t70:=underlying100
 a70:=isAgg100
 z70:=sizeOf100
 v70:=zeroValue100
 t72:=underlying102
 a72:=isAgg102
 z72:=sizeOf102
 v72:=zeroValue102
 t127:=underlying263
 a127:=isAgg263
 z127:=sizeOf263
 v127:=zeroValue263}
def aeV:Go.Shelf.Ren:=⟨λ|170=>138|n=>n,λ|0=>0|3=>3|5=>5|37=>64|70=>100|72=>102|n=>n,λ|n=>n⟩
theorem acE:Go.Proofs.Lays.n170 E? aeV:={
 mixed:=M?
 f170:=func138.trans<|U! C! M?
 t0:=underlying0
 a0:=isAgg0
 z0:=sizeOf0
 v0:=zeroValue0
 t3:=underlying3
 a3:=isAgg3
 z3:=sizeOf3
 v3:=zeroValue3
 t37:=underlying64
 a37:=isAgg64
 z37:=sizeOf64
 v37:=zeroValue64
 t70:=underlying100
 a70:=isAgg100
 z70:=sizeOf100
 v70:=zeroValue100
 t72:=underlying102
 a72:=isAgg102
 z72:=sizeOf102
 v72:=zeroValue102}
theorem bx166:Go.Proofs.Builder.Extra E? Y7:={
 sizeBuilder:=M?
 liesBuilder:=M?
 t5:=underlying5
 a5:=isAgg5
 z5:=sizeOf5
 v5:=zeroValue5
 infoByte:=M?
 cellsByte:=M?
 sizeByte:=M?
 neB5:=I!}
theorem bx169:Go.Proofs.Builder.Extra E? Y8:={
 sizeBuilder:=M?
 liesBuilder:=M?
 t5:=underlying5
 a5:=isAgg5
 z5:=sizeOf5
 v5:=zeroValue5
 infoByte:=M?
 cellsByte:=M?
 sizeByte:=M?
 neB5:=I!}
def jV(B b:Nat)(l:List UInt8)(w:D!):Prop:=Lib.IsBuilder 102 5 B b (Lib.byteCells l) w
theorem strCells_eq(s:ByteArray):Lib.strCells s=Lib.byteCells s.data.toList:=rfl
theorem NK(B b:Nat)(l:List UInt8)(s:ByteArray)(w:D!)(h:jV B b l w)(c:l.length+s.size<=140737488355328)(i:B<=w.heap.size):
 G! E? 214 #[P? b,D? s] w λe t=>e=.returned (.tuple #[A! s.size,.nilIface])/\jV B b (l++s.data.toList) t/\Below B w t:=by
 refine(Any.Builder_WriteString acC bx166 B b (Lib.byteCells l) s w h (by rw[bax];exact c) i).mono λe t ⟨r,n,d⟩=>⟨r,.inr ?_,d⟩;have o:Lib.byteCells (l++s.data.toList)=Lib.byteCells l++Lib.strCells s:=by rw[strCells_eq];simp[Lib.byteCells]
 rw[o];exact n
theorem F7(B b:Nat)(l:List UInt8)(w:D!)(h:jV B b l w):
 G! E? 138 #[P? b] w (T! w<|A! l.length):=by
 refine(Any.Builder_Len acE B b (Lib.byteCells l) w h).mono λe i ⟨t,o⟩=>⟨?_,o⟩;rw[t,bax]
theorem AA(B b:Nat)(l:List UInt8)(w:D!)(h:jV B b l w)(t:B<=w.heap.size):
 G! E? 139 #[P? b] w λe o=>e=.returned (D?<|bytesOf l)/\Below B w o:=Any.Builder_String_any acD bx169 B b l w h t
theorem jV.lt{B b:Nat}{l:List UInt8}{w:D!}(h:jV B b l w):b<w.heap.size:=by
 rcases h with h|h<;>exact Lib.BuilderAt.lt h
theorem jV.new{B b:Nat}{w:D!}(e:B<=b)(h:w.heap[b]? =C! (.cells xai 102 (0,0))):jV B b [] w:=
 .inl ⟨e,Q!,h,⟨rfl,.inl ⟨rfl,rfl⟩⟩,by simp[Value.ownBlock]⟩
theorem jV.below{B b:Nat}{l:List UInt8}{w e:D!}(h:jV B b l w)(n:K! w e):jV B b l e:=by
 have d:∀p,Lib.BuilderAt 102 5 B b p (Lib.byteCells l) w->Lib.BuilderAt 102 5 B b p (Lib.byteCells l) e:=by
  rintro p ⟨m,v,o,i,f⟩;refine⟨m,v,?_,⟨i.1,?_⟩,f⟩
  .rw[n.block b (i!.1 o).1];exact o
  .rcases i.2 with y|⟨g,c,u,j,k,s,r⟩
   .exact .inl y
   .exact .inr ⟨g,c,u,j,k,(n.block g (i!.1 s).1).trans s,r⟩
 rcases h with h|h
 .exact .inl<|d _ h
 .exact .inr<|d _ h
end
def rB:Elem E? UInt8 where
 tS:=64
 tE:=5
 size:=1
 bytes:=1
 z:=.int .u8 0
 enc:=λx=>[.int .u8 (x.toNat:Int)]
 und:=underlying64
 info:=M?
 zs:=rfl
 len:=λ_=>rfl
 one:=λa u hu=>by
  exact bcp
 pos:=I!
theorem jd.aeg{w:D!}{v:I?}{l:List UInt8}(h:jd rB w v l):(convert 64 9 v).run E? w=.ok (D?<|bytesOf l) w:=by
 rcases h with⟨rfl,a,rfl⟩|⟨b,o,i,c,rfl,u,m,s,f,r⟩
 .cases a with
  |none=>exact run_convert_bytes_nil w _ _ underlying64 underlying5 0 0 _ underlying9
  |some a=>exact bcd w _ _ _ a 0 [] underlying64 underlying5 underlying9 (λj t=>by simp at t)
 .refine bcd w _ _ _ (B? b o) i l underlying64 underlying5 underlying9 λj t=>?_;have d:((B? b o):Addr).add j=(B? b<|o+j):=ban;rw[d];have e:=r j (by show j<l.length*1;omega)
  have n:(l.flatMap rB.enc)[j]? =C! (.int .u8 (l[j].toNat:Int)):=by
   have:=rB.at l j t 0 I!;rw[show j*rB.size+0=j from by show j*1+0=j;omega]at this;exact this
  simp[World.cell?,s,e,n]
theorem bq.one{P:Program}{t:Type}(E:Elem P t)(W:D!)(a:t)(e:Nat)(o:e<=W.heap.size):bq E (W.alloc (.cells (E.enc a).toArray E.tE)) e (J! (C!<|B? W.heap.size 0) 1 1) [a]:=by
 refine⟨by simp[E.len],.inr ⟨W.heap.size,1,_,rfl,o,c! _ _,Y? _,I!,by simp[E.len],?_⟩⟩;simp only[ϐ,List.flatMap_nil,baj,mbV];rw[u?<|by simp[E.len]]
