/- Walks and plain laws. -/
import Derived.Test.YtncddkcponjlpaaGreatDoorK00
set_option linter.unusedVariables false
set_option linter.unusedSimpArgs false
set_option maxHeartbeats 0
set_option maxRecDepth 99999
namespace Go.Proofs.YtncddkcponjlpaaGreatDoor
open Go.RowKit Go.Proofs.Tryz
open Go renaming World→D!,Value→I?,Calls→G!,IntKind→ncy
open Go.RowKit renaming Hid→E!
open Decidable renaming decide→K?
open Option renaming some→C!,none→L?
open Bool renaming true→C?,false→H!
open Go.Proofs.Tryz renaming prog→E?
variable{P:Prop}
theorem seqB{w w1 e:D!}(h:K! w w1)(k:K! w1 e):K! w e:=h.trans<|k.mono h.size
theorem ak{w w1:D!}(h:K! w w1)(o:Obj):K! w<|w1.alloc o:=h.alloc h.size o
theorem aQ{w w1:D!}(h:K! w w1):K! w w1.drew:=h.drew
theorem iP{W w1:D!}(e:K! W w1):(∀b o,b<W.heap.size->w1.cell? (B? b o)=W.cell? (B? b o))/\(∀b o,b<W.heap.size->w1.frozen? (B? b o)=W.frozen? (B? b o)):=
 ⟨λb o h=>e.cell (p:=B? b o) h,λb o h=>e.frozen (p:=B? b o) h⟩
theorem BJ{B:Nat}{a w:D!}(h:Below B a w)(g:Nat)(e:Array I?)(t:B<=g):Below B a<|w.setRow g e:=
 h.trans ⟨rfl,rfl,rfl,N!,λk o=>setRow_other w g k e B!⟩
theorem uU{P:Program}{s:Array Oper}{r:List Oper}{o:Oper}{a:Act}{w:D!}{Q:Exit->Act->D!->Prop}(d:o.guard=L?)(n:TypeId)(x y:Operand)(u:o.op=.store n x y)
 (e:Array I?)(f:a.eval x=P? w.heap.size)(g:a.eval y=.agg e)(t:TypeId)(i:Array I?)
 (c:(P.info? n).map (·.size)=C! e.size)(m:i.size=e.size)(l:e.all (·.oneCell')=C?)
 (h:wpList P s Q r (a.put o.dst undef)<|w.alloc (.cells e t)):wpList P s Q (o::r) a<|w.alloc (.cells i t):=
 wpList_store_row d n x y u w.heap.size e f g t i (c! w _) c m l (by rw[World.setRow_alloc_new];exact h)
def bytesOf(l:List UInt8):ByteArray:=⟨l.toArray⟩
theorem bK(s:ByteArray):s.data.toList.length=s.size:=bch
theorem extract_toList(s:ByteArray)(a b:Nat):(s.extract a b).data.toList=(s.data.toList.drop a).take (b-a):=Lib.extract_data s a b
theorem DV(s:ByteArray)(n:Nat)(h:n<=s.size):(s.extract 0 n).size=n:=by
 rw[<-bK,extract_toList];simp;omega
theorem dG(s:ByteArray):s.toList=s.data.toList:=ByteArray.toList_eq s
theorem xY{a b:ByteArray}(h:a.data.toList=b.data.toList):(a.toList==b.toList)=true:=by rw[dG,dG,h];exact mbW _
theorem wA{a b:ByteArray}(h:a.data.toList≠b.data.toList):(a.toList==b.toList)=false:=by rw[dG,dG];exact Q?.2 h
theorem ut(s:ByteArray)(n:Nat):(s.extract 0 n).data.toList=s.data.toList.take n:=by rw[extract_toList];simp
theorem BK(s:ByteArray)(n:Nat):s.extract 0 n=bytesOf (s.data.toList.take n):=by
 have:=ut s n;cases h:s.extract 0 n with
 |mk d=>rw[h]at this;simp only at this;unfold bytesOf;rw[<-this]
theorem fY(l:List UInt8):(bytesOf l).data.toList=l:=rfl
theorem aA(l:List UInt8):(bytesOf l).size=l.length:=by simp[bytesOf,ByteArray.size]
theorem ox(s:ByteArray):bytesOf s.data.toList=s:=by unfold bytesOf;cases s;simp
theorem QF{a b:ByteArray}(h:a.data.toList=b.data.toList):a=b:=by
 rw[<-ox a,<-ox b,h]
theorem l7(a b:List UInt8):bytesOf a++bytesOf b=bytesOf (a++b):=QF (by simp[bytesOf])
theorem rH(e:List Int):strOfNums e=bytesOf (e.map λn=>UInt8.ofNat n.toNat):=rfl
theorem M7{P:Program}(w:D!)(s o e:TypeId)(c:P.underlying s=C! (.slice e))(l:P.underlying e=C! (.int .u8))(r:P.underlying o=C! .string)
 (t:List Int)(n:Nat)(d:t.length=n):
 (convert s o<|J! (C!<|B? w.heap.size 0) n n).run P (w.alloc (.cells (t.map<|Value.int .u8).toArray e))=.ok (D?<|strOfNums t) (w.alloc (.cells (t.map<|Value.int .u8).toArray e)):=by
 refine bcE _ s e c l w.heap.size 0 n n t d (λi u=>?_) o r;rw[j!];have h:i<t.length:=B!;simp[List.getD,h]
def nK(w:D!)(B:Nat)(e:TypeId)(l:List UInt8):Prop:=
 ∃t:Array I?,w.heap[B]? =C! (.cells t e (t.size,t.size+1))/\l.length<=t.size/\∀j (h:j<l.length),t[j]? =C! (.int .u8 (l[j].toNat:Int))
section
variable{w:D!}{B:Nat}{e:TypeId}{l:List UInt8}(h:nK w B e l){j:Nat}(hj:j<l.length)
include h hj
theorem nK.cell:w.cell? (B? B j)=C! (.int .u8 (l[j].toNat:Int)):=by
 obtain⟨i,t,_,o⟩:=h;simp[World.cell?,t,o j hj]
theorem nK.frozen:w.frozen? (B? B j)=false:=by
 obtain⟨i,t,o,_⟩:=h;simp[World.frozen?,t];omega
theorem nK.set(b:UInt8):nK (w.setCell (B? B j) (.int .u8 (b.toNat:Int))) B e<|l.set j b:=by
 obtain⟨r,t,h2,o⟩:=h;refine⟨r.setIfInBounds j (.int .u8 (b.toNat:Int)),?_,bbz,?_⟩
 .simp only[World.setCell,ba8,t!,t,p?];simp
 .intro i n;rw[mba];have s:i<l.length:=by simpa using n
  by_cases e:j=i
  .subst e;rw[G? rfl,G? B!];simp
  .rw[F! e,o i s];simp[e]
end
theorem nK.same{w t:D!}{B:Nat}{e:TypeId}{l:List UInt8}(h:nK w B e l)(s:t.heap[B]? =w.heap[B]?):nK t B e l:=by
 obtain⟨r,o,i,n⟩:=h;exact⟨r,s.trans o,i,n⟩
section
variable{w:D!}{B:Nat}{e:TypeId}{l:List UInt8}(h:nK w B e l)
include h
theorem nK.drew:nK w.drew B e l:=h.same rfl
theorem nK.lt:B<w.heap.size:=by
 obtain⟨o,t,_⟩:=h;exact(i!.1 t).1
end
theorem nK.below{w o:D!}{B:Nat}{e:TypeId}{l:List UInt8}(h:nK w B e l)(i:K! w o):nK o B e l:=h.same<|i.block B h.lt
theorem nK.conv{P:Program}{w:D!}{B:Nat}{e:TypeId}{l:List UInt8}(h:nK w B e l)(o t:TypeId)(m:P.underlying o=C! (.slice e))(d:P.underlying e=C! (.int .u8))(r:P.underlying t=C! .string)(n i:Nat)(u:n=l.length):
 (convert o t<|J! (C!<|B? B 0) n i).run P w=.ok (D?<|bytesOf l) w:=by
 subst u;refine bcd w o t e (B? B 0) i l m d r λj c=>?_;have s:((B? B 0):Addr).add j=(B? B j):=ban;rw[s];exact h.cell c
theorem grownCap_le(w:D!)(n e:Nat):n<=grownCap w n 0 e:=by
 unfold grownCap;simp[Question.cut]
theorem qg(a:Nat)(e:a<9223372036854775808):(BitVec.ofInt 64 (a:Int)).toNat=a:=by
 rw[BitVec.toNat_ofInt];omega
section
variable(a b:Nat)(ha:a<9223372036854775808)(hb:b<9223372036854775808)
include a b ha hb
theorem M8:bits .xor .i64 (a:Int) (b:Int)=((a^^^b:Nat):Int):=by
 have e:a^^^b<2^63:=bai B! B!;show IntKind.i64.wrap ((BitVec.ofInt 64 (a:Int)^^^BitVec.ofInt 64 (b:Int)).toNat:Int)=_;rw[BitVec.toNat_xor,qg a ha,qg b hb,naA];omega
theorem A6:bits .or .i64 (a:Int) (b:Int)=((a|||b:Nat):Int):=by
 have e:a|||b<2^63:=Nat.or_lt_two_pow B! B!;show IntKind.i64.wrap ((BitVec.ofInt 64 (a:Int)|||BitVec.ofInt 64 (b:Int)).toNat:Int)=_;rw[BitVec.toNat_or,qg a ha,qg b hb,naA];omega
end
theorem KM(n:Int)(k:Nat)(s:k<63):bits .and .i64 n ((2^k-1:Nat):Int)=n%((2^k:Nat):Int):=by
 have r:2^k<=2^62:=Nat.pow_le_pow_right B! B!;have l:=Nat.two_pow_pos k;have t:(BitVec.ofInt 64 ((2^k-1:Nat):Int)).toNat=2^k-1:=qg _ B!;have o:2^64=2^k*2^(64-k):=by rw[<-Nat.pow_add];congr 1;omega
 have i:(BitVec.ofInt 64 n&&&BitVec.ofInt 64 ((2^k-1:Nat):Int)).toNat=(n%((2^64:Nat):Int)).toNat%2^k:=by
  rw[BitVec.toNat_and,BitVec.toNat_ofInt,t,Nat.and_two_pow_sub_one_eq_mod]
 show IntKind.i64.wrap ((BitVec.ofInt 64 n&&&BitVec.ofInt 64 ((2^k-1:Nat):Int)).toNat:Nat)=_
 have e:(((n%((2^64:Nat):Int)).toNat%2^k:Nat):Int)=n%((2^k:Nat):Int):=by
  rw[Int.natCast_emod,Int.toNat_of_nonneg<|bb1 _ B!,o,Int.natCast_mul,Int.emod_emod_of_dvd _<|Int.dvd_mul_right _ _]
 rw[i,naA,<-e];omega
inductive Nfx:List I?->Nat->I?->Prop
|z (a:I?) (l:List I?):Nfx (a::l) 0 a
|s (a:I?) {l:List I?} {i:Nat} {v:I?}:Nfx l i v->Nfx (a::l) (i+1) v
theorem Nfx.arr{c:Array I?}{i:Nat}{v:I?}(h:Nfx c.toList i v):c[i]? =C! v:=by
 rw[<-Array.getElem?_toList];generalize c.toList=l at h
 induction h with
 |z=>rfl
 |s _ _ e=>exact e
theorem Nfx.of{w:D!}{a:Addr}{c:Array I?}{i:Nat}{v:I?}(h:w.cell? a=c[i]?)(e:Nfx c.toList i v:=by repeat(first|exact Nfx.z _ _|apply Nfx.s)):w.cell? a=C! v:=h.trans e.arr
def Yz:List (List (List UInt8)):=[
 [[50],[105,114,99,44,115,99,114,47,54],[45],[45],[45],[45],[45],[45],[45],[45]],
 [[45],[45],[48],[116,108,115,47,49],[48],[49],[49],[49],[49],[116,108,100,47,49]],
 [[116,108,115,47,49],[49],[105,114,99,44,115,99,114,47,54],[51],[53],[53],[54],[55],[56],[57]],
 [[48],[116,108,102,47,48],[50],[50],[52],[52],[105,114,99,44,115,116,114,47,52],[105,114,99,44,115,116,114,47,52],[105,114,99,44,115,116,114,47,52],[116,108,100,44,105,114,99,44,115,116,114,47,52]],
 [[45],[45],[45],[45],[115,116,114,47,52],[115,116,114,47,53],[115,99,114,47,54],[115,99,114,47,54],[115,99,114,47,56],[45]],
 [[45],[45],[45],[45],[116,108,102,47,50],[116,108,102,47,51],[116,108,102,47,51],[116,108,102,47,51],[116,108,102,47,51],[45]],
 [[45],[45],[115,116,97,47,50],[105,114,99,44,115,99,114,44,115,99,97,47,56],[52],[53],[115,99,97,47,56],[115,99,97,44,116,108,117,47,57],[115,99,97,47,56],[116,108,100,44,115,99,114,44,115,99,97,47,56]],
 [[45],[45],[115,116,97,47,50],[105,114,99,44,115,99,114,44,115,99,110,47,54],[52],[53],[115,99,110,47,54],[115,99,110,47,55],[115,99,110,47,54],[116,108,100,44,115,99,114,44,115,99,110,47,54]],
 [[45],[45],[115,116,97,47,50],[115,116,97,47,51],[52],[53],[105,114,99,47,55],[115,99,114,47,54],[105,114,99,44,116,108,117,47,57],[116,108,100,44,115,99,114,47,54]],
 [[45],[45],[115,116,97,47,50],[115,116,97,47,51],[52],[53],[105,114,99,44,115,99,114,47,54],[115,99,114,47,54],[105,114,99,44,115,99,114,47,56],[116,108,100,44,115,99,114,47,54]],
 [[45],[45],[115,116,97,47,50],[115,116,97,47,51],[115,116,97,47,52],[115,116,97,47,53],[115,116,97,47,54],[115,116,97,47,54],[115,116,97,47,54],[116,108,100,44,122,114,99,44,115,116,97,47,53]],
 [[45],[45],[50],[51],[116,108,102,47,50],[116,108,102,47,51],[54],[54],[56],[116,108,100,44,115,99,114,47,54]],
 [[45],[45],[115,99,106,47,50],[115,99,106,47,51],[115,99,106,47,52],[115,99,106,47,53],[115,99,106,47,54],[115,99,106,47,55],[115,99,106,47,56],[115,99,106,47,57]],
 [[45],[45],[50],[51],[52],[53],[54],[54],[56],[57]],
 [[45],[45],[116,108,102,47,50],[116,108,102,47,51],[116,108,102,47,50],[116,108,102,47,51],[116,108,102,47,51],[116,108,102,47,51],[116,108,102,47,51],[116,108,100,44,105,114,99,44,115,116,114,47,53]],
 [[45],[45],[50],[51],[52],[53],[54],[55],[56],[115,101,114,47,57]]]
def BU(v s:Nat):List UInt8:=(Yz.getD v []).getD s []
def kC(w:D!)(g:Nat):Prop:=∀v s,v<16->s<10->L! w g (v*10+s) (D?<|bytesOf<|BU v s)
def wB:Array Value:=(Yz.flatMap λr=>r.map λc=>Value.string<|bytesOf c).toArray
theorem FD:(List.range 160).map (λi=>wB[i]?)=(List.range 160).map (λi=>C!<|Value.string<|bytesOf<|BU (i/10)<|i%10):=M?
theorem Ao(v s:Nat)(i:v<16)(o:s<10):wB[v*10+s]? =C! (D?<|bytesOf<|BU v s):=by
 have h:=U! (·[v*10+s]?) FD;simp only[q!,mdQ (show v*10+s<160 from B!),p?]at h;have e:(v*10+s)/10=v:=B!;have t:(v*10+s)%10=s:=B!;rw[e,t]at h;exact baL h
theorem kf{P:Program}{r:Array Oper}{l:List Oper}{o:Oper}{a:Act}{w:D!}{Q:Exit->Act->D!->Prop}(d:o.guard=L?)(t:TypeId)(e:Array<|Nat×Operand)(c:o.op=.build t e)(n:Array I?)
 (s:P.built t (e.map λ(i,x)=>(i,a.eval x)).toList=C! n)
 (h:wpList P r Q l (a.put o.dst (.agg n)) w):wpList P r Q (o::l) a w:=
 wpList_build d t e c (by rw[s];rfl) (by rw[s];exact h)
