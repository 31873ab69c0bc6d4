/- Walks and plain laws. -/
import Derived.Test.YtncddkcponjlpaaGreatDoorK45
set_option linter.unusedVariables false
set_option linter.unusedSimpArgs false
set_option maxHeartbeats 0
set_option maxRecDepth 99999
namespace Go.Proofs.YtncddkcponjlpaaGreatDoor
open Go.RowKit Go.Proofs.Tryz
open Go renaming World→D!,Value→I?,Calls→G!,IntKind→ncy
open Go.RowKit renaming Hid→E!
open Decidable renaming decide→K?
open Option renaming some→C!,none→L?
open Bool renaming true→C?,false→H!
open Go.Proofs.Tryz renaming prog→E?
variable{P:Prop}
variable{w w1 w2 W:D!}{G G1 G2:Nat->Tag}{pb a b sb N:Nat}{va vb:I?}
def nJ(e o t:Int):Bool:=K? (1<=e)&&K? (e<=1000)&&K? (0<=o)&&K? (o<e)&&K? (1<=t)&&K? (t<=4096)
theorem abU(t o i:Int)(w:D!):G! E? 68 #[A! 1,A! t,A! o,A! i] w (T! w<|H?<|nJ t o i):=by
 by_cases n:1<=t
 rotate_left
 .have e:nJ t o i=false:=by unfold nJ;simp[n]
  have c:t<1:=B!;rw[e];exact d?
 by_cases s:t<=1000
 rotate_left
 .have e:nJ t o i=false:=by unfold nJ;simp[s]
  have u:1000<t:=B!;rw[e];exact d?
 by_cases r:0<=o
 rotate_left
 .have e:nJ t o i=false:=by unfold nJ;simp[r]
  have m:o<0:=B!;rw[e];exact d?
 by_cases l:o<t
 rotate_left
 .have e:nJ t o i=false:=by unfold nJ;simp[l]
  have f:t<=o:=B!;rw[e];exact d?
 by_cases d:1<=i
 rotate_left
 .have e:nJ t o i=false:=by unfold nJ;simp[d]
  have g:i<1:=B!;rw[e];exact d?
 have e:nJ t o i=K? (i<=4096):=by unfold nJ;simp[n,s,r,l,d]
 rw[e];exact d?
theorem Qo(s:ByteArray)(w:D!):G! E? 69 #[D? s] w (T! w<|H?<|eO s):=by
 have h:=A?<|FW (s.size:Int) 1 64 w
 have e:(decide ((1:Int)<=s.size)&&K? ((s.size:Int)<=64))=eO s:=by
  unfold eO;rw[show K? ((1:Int)<=s.size)=K? (1<=s.size)from decide_eq_decide.2 B!,show K? ((s.size:Int)<=64)=K? (s.size<=64)from decide_eq_decide.2 B!]
 rw[e]at h;go_in;go_wp2_with(go_at_call 66;refine M! h λo t=>?_;rw[t]);go_ret;exact⟨rfl,rfl⟩
def Ix(x a b:Int):Bool:=K? (a<=x)&&K? (x<=b)
def T5(c:cP):Bool:=Ix c.aV 1 8&&K? (c.links<=c.aV)&&Be c.rate c.least c.links
def T6(c:cP):Bool:=Ix c.cv 1 64&&nJ c.high c.low c.hold&&K? (c.hold<=64)
def T7(c:cP):Bool:=Ix c.base 1 c.cap&&K? (c.cap<=64)&&Ix c.restart 2 16&&Ix c.tries 2 10
def T8(c:cP):Bool:=Ix c.cD 1 4294967295&&Ix c.bP 1 4294967295&&(c.cD !=c.bP)
theorem afL(c:cP):iH c=(T5 c&&T6 c&&T7 c&&T8 c&&eO c.bR&&eO c.bT&&eO c.expect):=by
 rw[bbr];unfold iH T5 T6 T7 T8 nJ Ix;simp only[k!,z?,ϒ];constructor
 .rintro h;simp only[h,and_self,true_and,and_true];omega
 .rintro h;simp only[h,and_self,true_and,and_true];exact h.1.1.1.2.2
theorem MJ(c:cP)(w:World):Calls prog 39 #[.agg #[A! c.aV,A! c.links,A! c.least,A! c.rate,A! c.cv,A! c.high,A! c.low,A! c.hold,A! c.base,A! c.cap,A! c.restart,A! c.tries,.bool c.short,.string c.bR,.string c.bT,.string c.expect,A! c.cD,A! c.bP]] w (S? w (.bool<|iH c)):=by
 obtain⟨T,hT⟩:∃T,iH c=T:=⟨_,rfl⟩;rw[hT];have HT:=A?<|hT.symm.trans<|afL c;have hb:K! w<|w.alloc (.cells #[A! c.aV,A! c.links,A! c.least,A! c.rate,A! c.cv,A! c.high,A! c.low,A! c.hold,A! c.base,A! c.cap,A! c.restart,A! c.tries,.bool c.short,.string c.bR,.string c.bT,.string c.expect,A! c.cD,A! c.bP] 23):=R!;have hQ:=aO.new w 23 #[A! c.aV,A! c.links,A! c.least,A! c.rate,A! c.cv,A! c.high,A! c.low,A! c.hold,A! c.base,A! c.cap,A! c.restart,A! c.tries,.bool c.short,.string c.bR,.string c.bT,.string c.expect,A! c.cD,A! c.bP];obtain⟨W,hW⟩:∃W,w.alloc (.cells #[A! c.aV,A! c.links,A! c.least,A! c.rate,A! c.cv,A! c.high,A! c.low,A! c.hold,A! c.base,A! c.cap,A! c.restart,A! c.tries,.bool c.short,.string c.bR,.string c.bT,.string c.expect,A! c.cD,A! c.bP] 23)=W:=⟨_,rfl⟩;obtain⟨Q,wv⟩:∃Q,w.heap.size=Q:=⟨_,rfl⟩;rw[hW]at hb hQ;rw[wv]at hQ;have q0:=hQ.k 0;have q1:=hQ.k 1;have q2:=hQ.k 2;have q3:=hQ.k 3;have q4:=hQ.k 4;have q5:=hQ.k 5;have q6:=hQ.k 6;have q7:=hQ.k 7;have q8:=hQ.k 8;have q9:=hQ.k 9;have q10:=hQ.k 10;have q11:=hQ.k 11;have q13:=hQ.k 13;have q14:=hQ.k 14;have q15:=hQ.k 15;have q16:=hQ.k 16;have q17:=hQ.k 17;go_in;go_upto_region 1 with fail
 have M6:Hid<|∀x a b,Calls prog 66 #[A! x,A! a,A! b] W (T! W (.bool<|Ix x a b)):=A? λx a b=>FW x a b W;have Dh:=A?<|λs=>Qo s W;go_cut[3]from 7 to 25 (λv wx=>v=.bool (T5 c)/\W=wx)
 case first=>
  have HL:T5 c=T5 c:=rfl
  conv at HL=>rhs;unfold T5
  replace HL:=A? HL;obtain⟨B0,hB0⟩:∃b,Ix c.aV 1 8=b:=⟨_,rfl⟩;rw[hB0]at HL;obtain⟨B1,hB1⟩:∃b,decide (c.links<=c.aV)=b:=⟨_,rfl⟩;rw[hB1]at HL;have HC2:=A?<|VC c.rate c.least c.links W;obtain⟨B2,hB2⟩:∃b,Be c.rate c.least c.links=b:=⟨_,rfl⟩;rw[hB2]at HC2 HL;cases B0 with
  |false=>
   exact mbb
  |true=>
   cases B1 with
   |false=>
    exact mbb
   |true=>
    cases B2 with
    |false=>
     exact mbb
    |true=>
     exact mbb
 case rest=>
  obtain⟨rfl,rfl⟩:=hcut;go_upto_region 2 with fail
  go_cut[4]from 26 to 42 (λv wx=>v=.bool (T6 c)/\W=wx)
  case first=>
   have HL:T6 c=T6 c:=rfl
   conv at HL=>rhs;unfold T6
   replace HL:=A? HL;obtain⟨B0,hB0⟩:∃b,Ix c.cv 1 64=b:=⟨_,rfl⟩;rw[hB0]at HL;have HC1:=A?<|abU c.high c.low c.hold W;obtain⟨B1,hB1⟩:∃b,nJ c.high c.low c.hold=b:=⟨_,rfl⟩;rw[hB1]at HC1 HL;obtain⟨B2,hB2⟩:∃b,decide (c.hold<=64)=b:=⟨_,rfl⟩;rw[hB2]at HL;cases B0 with
   |false=>
    exact mai
   |true=>
    cases B1 with
    |false=>
     exact mai
    |true=>
     cases B2 with
     |false=>
      exact mai
     |true=>
      exact mai
  case rest=>
   obtain⟨rfl,rfl⟩:=hcut;go_upto_region 3 with fail
   go_cut[5]from 43 to 62 (λv wx=>v=.bool (T7 c)/\W=wx)
   case first=>
    have HL:T7 c=T7 c:=rfl
    conv at HL=>rhs;unfold T7
    replace HL:=A? HL;obtain⟨B0,hB0⟩:∃b,Ix c.base 1 c.cap=b:=⟨_,rfl⟩;rw[hB0]at HL;obtain⟨B1,hB1⟩:∃b,decide (c.cap<=64)=b:=⟨_,rfl⟩;rw[hB1]at HL;obtain⟨B2,hB2⟩:∃b,Ix c.restart 2 16=b:=⟨_,rfl⟩;rw[hB2]at HL;obtain⟨B3,hB3⟩:∃b,Ix c.tries 2 10=b:=⟨_,rfl⟩;rw[hB3]at HL;cases B0 with
    |false=>
     exact baU
    |true=>
     cases B1 with
     |false=>
      exact baU
     |true=>
      cases B2 with
      |false=>
       exact baU
      |true=>
       cases B3 with
       |false=>
        exact baU
       |true=>
        exact baU
   case rest=>
    obtain⟨rfl,rfl⟩:=hcut;go_upto_region 4 with fail
    go_cut[6]from 63 to 77 (λv wx=>v=.bool (T8 c)/\W=wx)
    case first=>
     have HL:T8 c=T8 c:=rfl
     conv at HL=>rhs;unfold T8
     replace HL:=A? HL;obtain⟨B0,hB0⟩:∃b,Ix c.cD 1 4294967295=b:=⟨_,rfl⟩;rw[hB0]at HL;obtain⟨B1,hB1⟩:∃b,Ix c.bP 1 4294967295=b:=⟨_,rfl⟩;rw[hB1]at HL;obtain⟨B2,hB2⟩:∃b,(c.cD !=c.bP)=b:=⟨_,rfl⟩;rw[hB2]at HL;cases B0 with
     |false=>
      exact baU
     |true=>
      cases B1 with
      |false=>
       exact baU
      |true=>
       cases B2 with
       |false=>
        exact baU
       |true=>
        exact baU
    case rest=>
     obtain⟨rfl,rfl⟩:=hcut;obtain⟨L1,hL1⟩:∃b,T5 c=b:=⟨_,rfl⟩;obtain⟨L2,hL2⟩:∃b,T6 c=b:=⟨_,rfl⟩;obtain⟨L3,hL3⟩:∃b,T7 c=b:=⟨_,rfl⟩;obtain⟨L4,hL4⟩:∃b,T8 c=b:=⟨_,rfl⟩;obtain⟨S1,hS1⟩:∃b,eO c.bR=b:=⟨_,rfl⟩;obtain⟨S2,hS2⟩:∃b,eO c.bT=b:=⟨_,rfl⟩;obtain⟨S3,hS3⟩:∃b,eO c.expect=b:=⟨_,rfl⟩;rw[hL1,hL2,hL3,hL4,hS1,hS2,hS3]at HT;cases L1 with
     |false=>
      exact baw
     |true=>
      cases L2 with
      |false=>
       exact baw
      |true=>
       cases L3 with
       |false=>
        exact baw
       |true=>
        cases L4 with
        |false=>
         exact baw
        |true=>
         cases S1 with
         |false=>
          exact baw
         |true=>
          cases S2 with
          |false=>
           exact baw
          |true=>
           cases S3 with
           |false=>
            exact baw
           |true=>
            exact baw
theorem abV(c:cP)(sd:Int)(w:World)(G:Nat->Tag)(hc:iH c=true)(hs:sd=0\/sd=1):
 Calls prog 41 #[.agg #[A! c.aV,A! c.links,A! c.least,A! c.rate,A! c.cv,A! c.high,A! c.low,A! c.hold,A! c.base,A! c.cap,A! c.restart,A! c.tries,.bool c.short,.string c.bR,.string c.bT,.string c.expect,A! c.cD,A! c.bP],A! sd] w λe w'=>∃b,e=.returned (.tuple #[ptr b,A! 0])/\∃G' x,cg w' G' sd b x (rU c sd)/\x.s=none/\K! w w'/\∀i,i<w.heap.size->G' i=G i:=by
 have hcf:=L7 hc;have hmm:= @mcW prog;have hb:K! w<|w.alloc (.cells #[A! c.aV,A! c.links,A! c.least,A! c.rate,A! c.cv,A! c.high,A! c.low,A! c.hold,A! c.base,A! c.cap,A! c.restart,A! c.tries,.bool c.short,.string c.bR,.string c.bT,.string c.expect,A! c.cD,A! c.bP] 23):=R!;have hQ:=aO.new w 23 #[A! c.aV,A! c.links,A! c.least,A! c.rate,A! c.cv,A! c.high,A! c.low,A! c.hold,A! c.base,A! c.cap,A! c.restart,A! c.tries,.bool c.short,.string c.bR,.string c.bT,.string c.expect,A! c.cD,A! c.bP];obtain⟨OW,uO⟩:∃o,(if sd=1 then c.bP else c.cD)=o:=⟨_,rfl⟩;obtain⟨OT,hOT⟩:∃o,(if sd=1 then c.cD else c.bP)=o:=⟨_,rfl⟩;have tU:Hid<|rU c sd=⟨c,sd,decide (OW<OT),yB (min c.rate 128) c.short,Ce c.short 128,Cf (decide (OW<OT)) c.tries,0,0,0,0,0,[],[],[],[],[],0,0,0,0,0⟩:=A? (by unfold rU;rw[uO,hOT]);have HMY:=A?<|λw=>MJ c w;rw[hc]at HMY;obtain⟨W,hW⟩:∃W,w.alloc (.cells #[A! c.aV,A! c.links,A! c.least,A! c.rate,A! c.cv,A! c.high,A! c.low,A! c.hold,A! c.base,A! c.cap,A! c.restart,A! c.tries,.bool c.short,.string c.bR,.string c.bT,.string c.expect,A! c.cD,A! c.bP] 23)=W:=⟨_,rfl⟩;obtain⟨Q,wv⟩:∃Q,w.heap.size=Q:=⟨_,rfl⟩;have HQZ:=A? wv;rw[hW]at hb hQ;rw[wv]at hQ;have hlt:=hQ.lt;have q0:=hQ.k 0;have q1:=hQ.k 1;have q2:=hQ.k 2;have q3:=hQ.k 3;have q4:=hQ.k 4;have q5:=hQ.k 5;have q6:=hQ.k 6;have q7:=hQ.k 7;have q8:=hQ.k 8;have q9:=hQ.k 9;have q10:=hQ.k 10;have q11:=hQ.k 11;have q12:=hQ.k 12;have q13:=hQ.k 13;have q14:=hQ.k 14;have q15:=hQ.k 15;have q16:=hQ.k 16;have q17:=hQ.k 17;have HB:=A? hb;have HQ:=A? hQ;have HCF:=A? hcf;have HOW:=A? uO;have Sg:=A? hOT;clear hb hcf hc hQ uO hOT;go_in;go_upto_region 1 with fail
 go_cut[19]from 9 to 18 (λv wx=>v=.bool false/\Hid (K! W wx))
 case first=>
  clear tU HB HCF HOW Sg HQZ q0 q1 q2 q3 q4 q5 q6 q7 q8 q9 q10 q11 q12 q13 q14 q15 q16 q17;rcases hs with rfl|rfl
  all_goals
   go_wp2_with(first|(refine bbV rfl 23 _ rfl Q rfl _ _ _ _ HQ underlying23 rfl M? ?_)|(go_at_call 39;refine(HMY _).mono ?_;rintro e w1 ⟨rfl,hb1⟩));have HB1:=A? hb1;clear hb1;go_meet
   case rel=>exact⟨rfl,HB1⟩
 case rest=>
  obtain⟨rfl,HB1⟩:=hcut;have hQ1:=HQ.below HB1;have p16:wc.drew.cell? (B? Q 16)=N? c.cD:=hQ1.k 16;have p17:wc.drew.cell? (B? Q 17)=N? c.bP:=hQ1.k 17;have HQ1:=A? hQ1;have afN:Q<wc.drew.heap.size:=hQ1.lt;clear HQ hQ1 HMY q0 q1 q2 q3 q4 q5 q6 q7 q8 q9 q10 q11 q12 q13 q14 q15 q16 q17;go_upto_region 3 with fail
  refine dW (λw'=>w'.cell? (B? Q 16)=N? c.cD/\w'.cell? (B? Q 17)=N? c.bP) (zcb [6]) (⟨p16,p17⟩) ?_;refine tK ?_;refine aj ?_;go_upto_region 4 with fail
  obtain⟨WD,hWD⟩:∃WD,wc.drew=WD:=⟨_,rfl⟩;have HBD:Hid<|K! w WD:=A? (by rw[<-hWD];exact aQ<|HB.trans<|HB1.mono HB.size);have HQ2:Hid<|aO WD Q 23 _:=A? (by rw[<-hWD];exact HQ1);rw[hWD]at afN|-;clear hWD p16 p17 HQ1 HB1 HB hW wv hlt;go_upto_if 25 with fail
  go_cut[6,7]from 24 to 27 (λu v wx=>u=A! OW/\v=A! OT/\WD=wx)
  case first=>
   have adT:=HOW.out;have adU:=Sg.out;rcases hs with rfl|rfl
   .rw[F! I!]at adT adU;exact nbH
   .rw[G? rfl]at adT adU;exact nbH
  case rest=>
   obtain⟨rfl,rfl,rfl⟩:=hcut
   have hmA:bP OW=true:=by
    have h1:=HOW.out;have h2:=HCF.out;unfold bP;rcases hs with rfl|rfl
    .rw[F! I!]at h1;subst h1;have:=h2.a1;have:=h2.am;simp;omega
    .rw[G? rfl]at h1;subst h1;have:=h2.m1;have:=h2.bm;simp;omega
   have hmB:bP OT=true:=by
    have h1:=Sg.out;have h2:=HCF.out;unfold bP;rcases hs with rfl|rfl
    .rw[F! I!]at h1;subst h1;have:=h2.m1;have:=h2.bm;simp;omega
    .rw[G? rfl]at h1;subst h1;have:=h2.a1;have:=h2.am;simp;omega
   have hmN:OW≠OT:=by
    have h1:=HOW.out;have h2:=Sg.out;have h3:=HCF.ne;rcases hs with rfl|rfl
    .rw[F! I!]at h1 h2;rw[<-h1,<-h2];exact h3
    .rw[G? rfl]at h1 h2;rw[<-h1,<-h2];exact λe=>h3 e.symm
   have U4:=A?<|λw=>Lt OW OT w hmA hmB hmN;clear hmA hmB hmN HOW Sg;have p0:=HQ2.k 0;have p1:=HQ2.k 1;have p2:=HQ2.k 2;have p3:=HQ2.k 3;have p4:=HQ2.k 4;have p5:=HQ2.k 5;have p6:=HQ2.k 6;have p7:=HQ2.k 7;have p8:=HQ2.k 8;have p9:=HQ2.k 9;have p10:=HQ2.k 10;have p11:=HQ2.k 11;have p12:=HQ2.k 12;have p13:=HQ2.k 13;have p14:=HQ2.k 14;have p15:=HQ2.k 15;have p16:=HQ2.k 16;have p17:=HQ2.k 17;obtain⟨S,hS⟩:∃S,WD.heap.size=S:=⟨_,rfl⟩;rw[hS]at afN;have HSZ:Hid<|w.heap.size<=S:=A? (by rw[<-hS];exact HBD.size);have z1:(WD.alloc (.map #[] 0)).heap.size=S+1:=by simp[hS]
   have z2:((WD.alloc (.map #[] 0)).alloc (.map #[] 0)).heap.size=S+1+1:=by simp[hS]
   have z3:(((WD.alloc (.map #[] 0)).alloc (.map #[] 0)).alloc (.map #[] 0)).heap.size=S+1+1+1:=by simp[hS]
   have z4:((((WD.alloc (.map #[] 0)).alloc (.map #[] 0)).alloc (.map #[] 0)).alloc (.cells #[A! c.aV,A! c.links,A! c.least,A! c.rate,A! c.cv,A! c.high,A! c.low,A! c.hold,A! c.base,A! c.cap,A! c.restart,A! c.tries,.bool c.short,.string c.bR,.string c.bT,.string c.expect,A! c.cD,A! c.bP,A! sd,.bool false,.pointer none,.pointer none,.pointer none,A! 0,A! 0,A! 0,A! 0,.pointer none,A! 0,.map<|some S,.map<|some<|S+1,.map<|some<|S+1+1,.slice none 0 0,.slice none 0 0,A! 0,A! 0,A! 0,A! 0,A! 0] 94)).heap.size=S+1+1+1+1:=by simp[hS]
   have m0:=bp.new WD;have m1:=bp.new<|WD.alloc (.map #[] 0);have m2:=bp.new<|(WD.alloc (.map #[] 0)).alloc (.map #[] 0);have hB6:=aO.new (((WD.alloc (.map #[] 0)).alloc (.map #[] 0)).alloc (.map #[] 0)) 94 #[A! c.aV,A! c.links,A! c.least,A! c.rate,A! c.cv,A! c.high,A! c.low,A! c.hold,A! c.base,A! c.cap,A! c.restart,A! c.tries,.bool c.short,.string c.bR,.string c.bT,.string c.expect,A! c.cD,A! c.bP,A! sd,.bool false,.pointer none,.pointer none,.pointer none,A! 0,A! 0,A! 0,A! 0,.pointer none,A! 0,.map<|some S,.map<|some<|S+1,.map<|some<|S+1+1,.slice none 0 0,.slice none 0 0,A! 0,A! 0,A! 0,A! 0,A! 0];rw[hS]at m0;rw[z1]at m1;rw[z2]at m2;rw[z3]at hB6;have m0:bp ((((WD.alloc (.map #[] 0)).alloc (.map #[] 0)).alloc (.map #[] 0)).alloc (.cells #[A! c.aV,A! c.links,A! c.least,A! c.rate,A! c.cv,A! c.high,A! c.low,A! c.hold,A! c.base,A! c.cap,A! c.restart,A! c.tries,.bool c.short,.string c.bR,.string c.bT,.string c.expect,A! c.cD,A! c.bP,A! sd,.bool false,.pointer none,.pointer none,.pointer none,A! 0,A! 0,A! 0,A! 0,.pointer none,A! 0,.map<|some S,.map<|some<|S+1,.map<|some<|S+1+1,.slice none 0 0,.slice none 0 0,A! 0,A! 0,A! 0,A! 0,A! 0] 94)) S []:=m0.below<|ak (ak R! _) _;have m1:bp ((((WD.alloc (.map #[] 0)).alloc (.map #[] 0)).alloc (.map #[] 0)).alloc (.cells #[A! c.aV,A! c.links,A! c.least,A! c.rate,A! c.cv,A! c.high,A! c.low,A! c.hold,A! c.base,A! c.cap,A! c.restart,A! c.tries,.bool c.short,.string c.bR,.string c.bT,.string c.expect,A! c.cD,A! c.bP,A! sd,.bool false,.pointer none,.pointer none,.pointer none,A! 0,A! 0,A! 0,A! 0,.pointer none,A! 0,.map<|some S,.map<|some<|S+1,.map<|some<|S+1+1,.slice none 0 0,.slice none 0 0,A! 0,A! 0,A! 0,A! 0,A! 0] 94)) (S+1) []:=m1.below<|ak R! _;have m2:bp ((((WD.alloc (.map #[] 0)).alloc (.map #[] 0)).alloc (.map #[] 0)).alloc (.cells #[A! c.aV,A! c.links,A! c.least,A! c.rate,A! c.cv,A! c.high,A! c.low,A! c.hold,A! c.base,A! c.cap,A! c.restart,A! c.tries,.bool c.short,.string c.bR,.string c.bT,.string c.expect,A! c.cD,A! c.bP,A! sd,.bool false,.pointer none,.pointer none,.pointer none,A! 0,A! 0,A! 0,A! 0,.pointer none,A! 0,.map<|some S,.map<|some<|S+1,.map<|some<|S+1+1,.slice none 0 0,.slice none 0 0,A! 0,A! 0,A! 0,A! 0,A! 0] 94)) (S+1+1) []:=m2.below R!;have hb6:K! WD<|(((WD.alloc (.map #[] 0)).alloc (.map #[] 0)).alloc (.map #[] 0)).alloc (.cells #[A! c.aV,A! c.links,A! c.least,A! c.rate,A! c.cv,A! c.high,A! c.low,A! c.hold,A! c.base,A! c.cap,A! c.restart,A! c.tries,.bool c.short,.string c.bR,.string c.bT,.string c.expect,A! c.cD,A! c.bP,A! sd,.bool false,.pointer none,.pointer none,.pointer none,A! 0,A! 0,A! 0,A! 0,.pointer none,A! 0,.map<|some S,.map<|some<|S+1,.map<|some<|S+1+1,.slice none 0 0,.slice none 0 0,A! 0,A! 0,A! 0,A! 0,A! 0] 94):=ak (ak (ak R! _) _) _;have HQ6:=A?<|HQ2.below hb6;have HB6:=A?<|HBD.trans<|hb6.mono HBD.size;obtain⟨W6,hW6⟩:∃W6,((((WD.alloc (.map #[] 0)).alloc (.map #[] 0)).alloc (.map #[] 0)).alloc (.cells #[A! c.aV,A! c.links,A! c.least,A! c.rate,A! c.cv,A! c.high,A! c.low,A! c.hold,A! c.base,A! c.cap,A! c.restart,A! c.tries,.bool c.short,.string c.bR,.string c.bT,.string c.expect,A! c.cD,A! c.bP,A! sd,.bool false,.pointer none,.pointer none,.pointer none,A! 0,A! 0,A! 0,A! 0,.pointer none,A! 0,.map<|some S,.map<|some<|S+1,.map<|some<|S+1+1,.slice none 0 0,.slice none 0 0,A! 0,A! 0,A! 0,A! 0,A! 0] 94))=W6:=⟨_,rfl⟩;rw[hW6]at m0 m1 m2 hB6 HQ6 HB6 z4;have HW6:=A? hW6;have HM0:=A? m0;have HM1:=A? m1;have HM2:=A? m2;have HZ4:=A? z4;have HBP:=A? hB6;clear z1 z2 z3 z4 m0 m1 m2 hB6 hb6 hW6;go_upto_region 7 with(first|(refine bbV rfl 23 _ rfl Q rfl _ _ _ _ HQ2 underlying23 rfl M? ?_)|(refine kf rfl 94 _ rfl #[.int .i64 c.aV,.int .i64 c.links,.int .i64 c.least,.int .i64 c.rate,.int .i64 c.cv,.int .i64 c.high,.int .i64 c.low,.int .i64 c.hold,.int .i64 c.base,.int .i64 c.cap,.int .i64 c.restart,.int .i64 c.tries,.bool c.short,.string c.bR,.string c.bT,.string c.expect,.int .i64 c.cD,.int .i64 c.bP,.int .i64 sd,.bool false,.pointer none,.pointer none,.pointer none,.int .i64 0,.int .i64 0,.int .i64 0,.int .i64 0,.pointer none,.int .i64 0,.map<|some S,.map<|some<|S+1,.map<|some<|S+1+1,.slice none 0 0,.slice none 0 0,.int .i64 0,.int .i64 0,.int .i64 0,.int .i64 0,.int .i64 0] M? ?_))
   rw[HW6.out];clear p0 p1 p2 p3 p4 p5 p6 p7 p8 p9 p10 p11 p12 p13 p14 p15 p16 p17 afN hS HW6 HBD HQ2 hmm;obtain⟨G6,hG6⟩:∃G6:Nat->Tag,(λi=>if i<S then G i else if i=S then[sd,4]else if i=S+1 then[sd,5]else if i=S+1+1 then[sd,6]else[sd])=G6:=⟨_,rfl⟩;have HG6:=A? hG6;clear hG6;obtain⟨b,r8⟩:∃b,S+1+1+1=b:=⟨_,rfl⟩;rw[r8]at HBP HZ4|-;have HBB:=A? r8;clear r8;have e19:=HBP.cell 19;have f19:=HBP.frozen 19;have cU:=HBP.lt;obtain⟨FV,Tv⟩:∃FV,decide (OW<OT)=FV:=⟨_,rfl⟩;rw[Tv]at U4 tU;clear Tv;go_upto_region 8 with(go_at_call 70;refine(U4 _).mono ?_;rintro e wm ⟨rfl,ew⟩;rw[ew];clear ew wm)
   clear e19 f19 U4;have HB7:=A?<|HBP.set 19 (.bool FV) rfl
   have gb6:G6 b=[sd]/\G6 S=[sd,4]/\G6 (S+1)=[sd,5]/\G6 (S+1+1)=[sd,6]/\(∀i,i<S->G6 i=G i)/\w.heap.size<=S/\S<b:=by
    refine⟨?_,?_,?_,?_,λi hi=>?_,HSZ,by have:=HBB.out;omega⟩<;>rw[<-HG6.out]
    .rw[<-HBB.out];show(if _ then _ else _)=_;rw[F! B!,F! B!,F! B!,F! B!]
    .show(if _ then _ else _)=_;exact bbB
    .show(if _ then _ else _)=_;exact mbG
    .show(if _ then _ else _)=_;rw[F! B!,F! B!,F! B!,G? rfl]
    .exact G? hi
   obtain⟨W7,hW7⟩:∃W7,W6.setCell (B? b 19) (.bool FV)=W7:=⟨_,rfl⟩
   have hQb:Q≠b:=λe=>by
    have h1:=HQ6.out;have h2:=HBP.out;rw[e]at h1;have h3:some (Obj.cells _ 23 (0,0))=some (Obj.cells _ 94 (0,0)):=h1.symm.trans h2;cases h3
   have hQ7:=HQ6.only (ay W6 b 19 (.bool FV)) hQb;rw[hW7]at HB7 hQ7|-;have HW7:=A? hW7;have HQ7:=A? hQ7;have Ti:=A? hQb;have tT:=A? gb6;have hra:=HCF.ra;have hrb:=HCF.rb;have HQN:=A?<|ZJ (min c.rate 128) c.short W7 G6 [sd,1] B!;have p3:=hQ7.k 3;have p12:=hQ7.k 12;have ai4:=HB7.lt;have ai5:=hQ7.lt;clear hW7 hQb hQ7 gb6 HQ6 cU HBB HG6 HSZ;unfold ptr at HQN;go_upto_region 9 with(go_at_call 71;refine HQN.mono ?_;rintro e w8 ⟨qb,rfl,G8,hq8,hs8⟩;have hb8:=HB7.step hs8<|λe=>e;have hQ8:=HQ7.step hs8<|λe=>e;have e20:=hb8.cell 20;have f20:=hb8.frozen 20;have ahI:=hb8.lt;clear hb8)
   have HB9:=A?<|(HB7.step hs8<|λe=>e).set 20 (.pointer<|some<|B? qb 0) rfl;have hQ9:=hQ8.only (ay w8 b 20 (.pointer<|some<|B? qb 0)) Ti;have HQ8:=A? hq8;have HS8:=A? hs8;obtain⟨W9,hW9⟩:∃W9,w8.setCell (B? b 20) (.pointer<|some<|B? qb 0)=W9:=⟨_,rfl⟩;rw[hW9]at HB9 hQ9|-;have HW9:=A? hW9;have HQ9:=A? hQ9;have HJN:=A?<|abc c.short W9 G8 [sd,2];have r12:=hQ9.k 12;have ai6:=HB9.lt;have ai7:=hQ9.lt;clear hW9 hQ9 hQ8 hq8 hs8 e20 f20 ahI p3 p12 ai4 ai5 HQN HB7 HQ7;unfold ptr at HJN;go_upto_region 10 with(go_at_call 72;refine HJN.mono ?_;rintro e w10 ⟨jb,rfl,G10,hj10,hs10⟩;have hb10:=HB9.step hs10<|λe=>e;have hQ10:=HQ9.step hs10<|λe=>e;have e21:=hb10.cell 21;have f21:=hb10.frozen 21;have ahK:=hb10.lt;clear hb10)
   have HB11:=A?<|(HB9.step hs10<|λe=>e).set 21 (.pointer<|some<|B? jb 0) rfl;have hQ11:=hQ10.only (ay w10 b 21 (.pointer<|some<|B? jb 0)) Ti;have HJ10:=A? hj10;have HS10:=A? hs10;obtain⟨W11,hW11⟩:∃W11,w10.setCell (B? b 21) (.pointer<|some<|B? jb 0)=W11:=⟨_,rfl⟩;rw[hW11]at HB11 hQ11|-;have HW11:=A? hW11;have HTN:=A?<|Pj FV c.tries W11.drew ⟨by have:=HCF.t2;omega,HCF.t10⟩;have k19:W11.drew.cell? (B? b 19)=some (.bool FV):=HB11.k 19;have k11:W11.drew.cell? (B? Q 11)=N? c.tries:=hQ11.k 11;have ahL:b<W11.drew.heap.size:=HB11.lt;have ahM:Q<W11.drew.heap.size:=hQ11.lt;have HS:Hid<|∀w',Below W11.drew.heap.size W11.drew w'->w'.cell? (B? b 19)=some (.bool FV)/\w'.cell? (B? Q 11)=N? c.tries:=A? λw' hb=>⟨aw hb k19,aw hb k11⟩;clear hW11 hQ11 hQ10 hj10 hs10 e21 f21 ahK r12 ai6 ai7 HJN HB9 HQ9;unfold ptr gF at HTN;refine dW (λw'=>w'.cell? (B? b 19)=some (.bool FV)/\w'.cell? (B? Q 11)=N? c.tries) (zcb [7,1,5,1]) (⟨k19,k11⟩) ?_;refine tK ?_;refine ai<|λK hK=>?_;go_wp2_with(go_at_call 73;refine HTN.mono ?_;rintro e w12 ⟨rfl,hk12,hb12⟩);refine ah<|hK _ _ (HS _ hb12) ?_;clear hK K;refine tK ?_;have Vb:=HB11.below (w1:=w12)<|(aQ<|P! W11.heap.size W11).trans hb12;have e22:=Vb.cell 22;have f22:=Vb.frozen 22;have ajl:=Vb.lt
   have HPM:=A? (Yb (c:=c) (n:=sd) (IY:=FV) (K:=Cf FV c.tries) HBP HM0 HM1 HM2 tT.1 tT.2.1 tT.2.2.1 tT.2.2.2.1 (by rw[HW7.out];exact HS8) HQ8
    (by show Step _ G8 (w8.setCell (B? b 20) (.pointer<|some<|B? qb 0)) G10 w10;rw[HW9.out];exact HS10) HJ10
    (by show Below (w10.setCell (B? b 21) (.pointer<|some<|B? jb 0)).heap.size (w10.setCell (B? b 21) (.pointer<|some<|B? jb 0)).drew w12;rw[HW11.out];exact hb12)
    (by show aO w12 (w10.setCell (B? b 21) (.pointer (some (B? jb 0)))).drew.heap.size _ _;rw[HW11.out];exact hk12) ⟨rfl,rfl⟩)
   have uI:Hid (∃G' x,cg (w12.setCell (B? b 22) (.pointer (some (B? W11.heap.size 0)))) G' sd b x (rU c sd)/\x.s=none/\K! w (w12.setCell (B? b 22) (.pointer (some (B? W11.heap.size 0))))/\∀i,i<w.heap.size->G' i=G i):=A? (by
    obtain⟨G',x,p1,p2,p3,p4⟩:=HPM.out;obtain⟨-,-,-,-,g5,g6,g7⟩:=tT.out;have hz:=HZ4.out;have e11:w10.setCell (B? b 21) (ptr jb)=W11:=HW11.out;rw[e11]at p1 p4;exact⟨G',x,by rw[tU.out];exact p1,p2,HB6.trans (p4 _ B! B!),λi hi=>(p3 i B!).trans (g5 i B!)⟩)
   obtain⟨KB,hKB⟩:∃KB,W11.heap.size=KB:=⟨_,rfl⟩;rw[hKB]at uI|-
   have ur:Hid<|∀v,(w12.setCell (B? b 22) v).cell? (B? b 19)=some (.bool FV)/\(w12.setCell (B? b 22) v).cell? (B? Q 11)=N? c.tries:=A? λv=>by
    obtain⟨h1,h2⟩:=HS _ hb12;have h3:=Ti.out;exact⟨by rw[Ω _ _ _ _ N!];exact h1,by rw[Ω _ _ _ _<|by simp[h3]];exact h2⟩
   clear hKB HPM HBP HM0 HM1 HM2 tT HW7 HS8 HQ8 HW9 HS10 HJ10 HW11 HTN HS hk12 hb12 Vb HB11 tU HB6 HZ4 Ti k19 k11 ahL ahM;refine ai<|λK hK=>?_;go_wp2_with fail;refine ah<|hK _ _ (ur _) ?_;clear hK K;refine aj ?_;go_wp2;go_ret2;exact⟨b,rfl,uI⟩
section
variable{Q:Nat}{c:cP}
theorem abZ(e:K! w w1)(t:∀i,i<w.heap.size->G1 i=G i):Step (λ_=>False) G w G1 w1:=⟨e.os,e.tape,e.output,e.size,t,λi o _=>e.block i o⟩
theorem A4{P:Program}{o:Oper}{n:Operand->I?}{w:D!}(i:TypeId)(x:Operand)(u:o.op=.load i x)(g:Nat)(f:n x=P? g)(t:TypeId)(e:Array I?)(s:Nat×Nat)(d:TypeDesc)(h:w.heap[g]? =C! (.cells e t s))
 (m:P.underlying i=C! d)(r:(match d with|.struct _|.array _ _=>C?|_=>H!)=C?)(l:(P.info? i).map (·.size)=C! e.size):(execOp n o).run P w=.ok (.value (.agg e)) w:=by
 unfold execOp;simp only[u,f,Instr.loadAt,Instr.sureAddr,maQ,bcB,mcm,run_loadVar_row w g t i e s d h m r l]
def A5(c:cP)(Q:Nat)(w:D!):Prop:=aO w Q 23 #[A! c.aV,A! c.links,A! c.least,A! c.rate,A! c.cv,A! c.high,A! c.low,A! c.hold,A! c.base,A! c.cap,A! c.restart,A! c.tries,H? c.short,D? c.bR,D? c.bT,D? c.expect,A! c.cD,A! c.bP]
def ahN(j i a:Nat):Value:=if i<j then ptr a else .pointer L?
def Qq(c:cP)(G:Nat->Tag)(w:D!)(Q pb sb j:Nat)(W:D!):Prop:=∃e a b,A5 c Q W/\aO W pb 76 #[ahN j 0 a,ahN j 1 b,ptr sb,A! 0,A! 0,Q!,Q!]/\e pb=[3]/\aY W e [2] sb (sw c.aV 65536)/\
 (1<=j->∃x,cg W e 0 a x (rU c 0)/\x.s=L?)/\(2<=j->∃x,cg W e 1 b x (rU c 1)/\x.s=L?)/\K! w W/\(∀i,i<w.heap.size->e i=G i)/\w.heap.size<=pb/\e Q=free
theorem Qq.drew{j:Nat}(h:Qq c G w Q pb sb j W):Qq c G w Q pb sb j W.drew:=by
 obtain⟨n,a,b,s,l,d,u,m,f,g,y,v,r⟩:=h;have i:=aB (λ_=>False) n W;exact⟨n,a,b,s,l,d,u.step i (λ_ _ e=>e),λo=>(m o).imp λx t=>⟨t.1.step i (λ_ _ e=>e),t.2⟩,λo=>(f o).imp λx t=>⟨t.1.step i (λ_ _ e=>e),t.2⟩,aQ g,y,v,r⟩
theorem sF{n:Int}(o:n≠3):∀s u,aq (n::s) u->¬(λu=>u=[3]) u:=λs u t e=>by
 rw[show u=[3]from e]at t;exact ou o t (aq.self _)
theorem Qq.next{j:Nat}(a2:j<2)(h:Qq c G w Q pb sb j W)(X:iH c=C?):
 G! E? 41 #[.agg #[A! c.aV,A! c.links,A! c.least,A! c.rate,A! c.cv,A! c.high,A! c.low,A! c.hold,A! c.base,A! c.cap,A! c.restart,A! c.tries,H? c.short,D? c.bR,D? c.bT,D? c.expect,A! c.cD,A! c.bP],A! (j:Int)] W λe o=>∃t,e=.returned (.tuple #[ptr t,A! 0])/\A5 c Q o/\(∃O,aO o pb 76 O/\O.size=7)/\Qq c G w Q pb sb (j+1) (o.setCell (B? pb j) (ptr t))/\A5 c Q (o.setCell (B? pb j) (ptr t)):=by
 obtain⟨M,a,b,I,S,B,R,V,a1,d,K,k,Y⟩:=h;apply(abV c j W M X B!).mono;rintro e o ⟨t,rfl,l,x,D,C,E,f⟩;have r:=abZ E f;have q:=S.step r λe=>e;have A:A5 c Q o:=aO.step I r λe=>e;have g:=(f _ S.lt).trans B;have v:=(f _ (aO.lt I)).trans Y;have n:=ay o pb j (ptr t);have s:Step (λu=>u=[3]) l o l (o.setCell (B? pb j) (ptr t)):=⟨n.os,n.tape,n.output,n.size,λ_ _=>rfl,λi m J=>n.block i m λe=>J (by rw[e];exact g)⟩;have z:A5 c Q (o.setCell (B? pb j) (ptr t)):=aO.step A s (by rw[v];intro e;cases e);have H:=(d.trans (E.mono d.size)).trans (n.below (Z? d.size E.size) λi e=>by rw[show i=pb from e];exact k);have L:=λi m=>(f i (Z! m d.size)).trans (K i m);refine⟨t,rfl,A,⟨_,q,rfl⟩,?_,z⟩;rcases(by omega:j=0\/j=1)with rfl|rfl
 .exact⟨l,t,b,z,q.set 0 _ rfl,g,(R.step r (λ_ _ e=>e)).step s (sF I! []),λ_=>⟨x,D.step s (sF I! []),C⟩,λe=>B!,H,L,k,v⟩
 .refine⟨l,a,t,z,q.set 1 _ rfl,g,(R.step r (λ_ _ e=>e)).step s (sF I! []),λ_=>?_,λ_=>⟨x,D.step s (sF I! []),C⟩,H,L,k,v⟩;let⟨y,Z,a0⟩:=V I!;exact⟨y,(Z.step r (λ_ _ e=>e)).step s (sF I! []),a0⟩
theorem Qr(c:cP)(w:D!)(s:iH c=H!):G! E? 15 #[.agg #[A! c.aV,A! c.links,A! c.least,A! c.rate,A! c.cv,A! c.high,A! c.low,A! c.hold,A! c.base,A! c.cap,A! c.restart,A! c.tries,H? c.short,D? c.bR,D? c.bT,D? c.expect,A! c.cD,A! c.bP]] w (S? w (.tuple #[.pointer L?,A! 2700])):=by
 have o:=A? λw=>MJ c w;rw[s]at o;have t:K! w (w.alloc (.cells #[A! c.aV,A! c.links,A! c.least,A! c.rate,A! c.cv,A! c.high,A! c.low,A! c.hold,A! c.base,A! c.cap,A! c.restart,A! c.tries,H? c.short,D? c.bR,D? c.bT,D? c.expect,A! c.cD,A! c.bP] 23)):=R!;have e:=aO.new w 23 #[A! c.aV,A! c.links,A! c.least,A! c.rate,A! c.cv,A! c.high,A! c.low,A! c.hold,A! c.base,A! c.cap,A! c.restart,A! c.tries,H? c.short,D? c.bR,D? c.bT,D? c.expect,A! c.cD,A! c.bP];let⟨W,i⟩:=F? (w.alloc (.cells #[A! c.aV,A! c.links,A! c.least,A! c.rate,A! c.cv,A! c.high,A! c.low,A! c.hold,A! c.base,A! c.cap,A! c.restart,A! c.tries,H? c.short,D? c.bR,D? c.bT,D? c.expect,A! c.cD,A! c.bP] 23));let⟨Q,r⟩:=F? w.heap.size;rw[i]at t e;rw[r]at e;go_in;go_wp2_with(first|(apply bbV rfl 23 _ rfl Q rfl _ _ _ _ e underlying23 rfl M?)|(go_at_call 39;refine M! (o _) λw1 n=>?_));go_ret2;exact⟨rfl,t.trans (n.mono t.size)⟩
theorem Qs(c:cP)(w:World)(G:Nat->Tag)(hc:iH c=true):Calls prog 15 #[.agg #[A! c.aV,A! c.links,A! c.least,A! c.rate,A! c.cv,A! c.high,A! c.low,A! c.hold,A! c.base,A! c.cap,A! c.restart,A! c.tries,.bool c.short,.string c.bR,.string c.bT,.string c.expect,A! c.cD,A! c.bP]] w λe w'=>∃pb,e=.returned (.tuple #[ptr pb,A! 0])/\∃G' a b sb,bQ w' G' pb a b sb (.slice none 0 0) (.slice none 0 0) (js c)/\K! w w'/\∀i,i<w.heap.size->G' i=G i:=by
 have HMY:=A? (λw=>MJ c w);rw[hc]at HMY;have hcf:=L7 hc;have hb:K! w (w.alloc (.cells #[A! c.aV,A! c.links,A! c.least,A! c.rate,A! c.cv,A! c.high,A! c.low,A! c.hold,A! c.base,A! c.cap,A! c.restart,A! c.tries,.bool c.short,.string c.bR,.string c.bT,.string c.expect,A! c.cD,A! c.bP] 23)):=R!;have hQ:=aO.new w 23 #[A! c.aV,A! c.links,A! c.least,A! c.rate,A! c.cv,A! c.high,A! c.low,A! c.hold,A! c.base,A! c.cap,A! c.restart,A! c.tries,.bool c.short,.string c.bR,.string c.bT,.string c.expect,A! c.cD,A! c.bP];obtain⟨W,hW⟩:∃W,w.alloc (.cells #[A! c.aV,A! c.links,A! c.least,A! c.rate,A! c.cv,A! c.high,A! c.low,A! c.hold,A! c.base,A! c.cap,A! c.restart,A! c.tries,.bool c.short,.string c.bR,.string c.bT,.string c.expect,A! c.cD,A! c.bP] 23)=W:=⟨_,rfl⟩;obtain⟨Q,wv⟩:∃Q,w.heap.size=Q:=⟨_,rfl⟩;have HQQ:=A? wv;rw[hW]at hb hQ;rw[wv]at hQ;have HB:=A? hb;have HQ:=A? hQ;have HC:=A? hc;have hp1:=hcf.p1;have hp8:=hcf.p8;have hlt:=hQ.lt;clear hb hQ hc hcf;go_in;go_upto_region 3 with(first|(refine bbV rfl 23 _ rfl Q rfl _ _ _ _ HQ underlying23 rfl M? ?_)|(go_at_call 39;refine(HMY _).mono ?_;rintro e w1 ⟨rfl,hb1⟩))
 have HQ1:=A? (HQ.below hb1);have HB1:=A? (HB.trans (hb1.mono HB.size));obtain⟨PB,hPB⟩:∃PB,w1.heap.size=PB:=⟨_,rfl⟩;have lQ:=HQ1.lt;clear hb1 HB HQ hW wv HMY;go_upto_region 4 with(refine kf rfl 76 _ rfl xah M? ?_)
 have hb6:K! w1 (w1.alloc (.cells xah 76)):=R!;have hB6:=aO.new w1 76 xah;have hQ6:=HQ1.below hb6;have hb6':=HB1.trans (hb6.mono HB1.size);have hPw:w.heap.size<=PB:=by rw[<-hPB];exact HB1.size
 obtain⟨W6,hW6⟩:∃W6,w1.alloc (.cells xah 76)=W6:=⟨_,rfl⟩;rw[hW6]at hB6 hQ6 hb6'|-;rw[hPB]at hB6 lQ;obtain⟨G6,hG6⟩:∃G6:Nat->Tag,(λi=>if i<w.heap.size then G i else if i=PB then[3]else free)=G6:=⟨_,rfl⟩;have g1:∀i,i<w.heap.size->G6 i=G i:=λi hi=>by rw[<-hG6];exact G? hi
 have g2:G6 PB=[3]:=by
  rw[<-hG6];show(if _ then _ else _)=_;exact bbB
 have g3:G6 Q=free:=by
  rw[<-hG6];show(if _ then _ else _)=_;have:=HQQ.out;rw[F! B!,F! B!]
 have rZ:=A? (IZ c.aV 65536 W6 G6 [2] ⟨hp1,hp8⟩ I!);have p0:=hQ6.k 0;have HB6:=A? hB6;have HQ6:=A? hQ6
 have Ti:Hid (∀w8 G8 sb,aY w8 G8 [2] sb (sw c.aV 65536)->Step (λ_=>False) G6 W6 G8 w8->Qq c G w Q PB sb 0 (w8.setCell (B? PB 2) (ptr sb))):=A? λw8 G8 sb hsw hs=>by
  have hb:=hB6.step hs (λe=>e);have Xu:A5 c Q w8:=aO.step hQ6 hs (λe=>e);have g2':=(hs.old _ hB6.lt).trans g2;have g3':=(hs.old _ hQ6.lt).trans g3;have ho:=ay w8 PB 2 (ptr sb);have hs2:Step (λu=>u=[3]) G8 w8 G8 (w8.setCell (B? PB 2) (ptr sb)):=⟨ho.os,ho.tape,ho.output,ho.size,λ_ _=>rfl,λi hi hn=>ho.block i hi λe=>hn (by rw[e];exact g2')⟩;have hbl:=hb6'.trans ((hs.base O? λ_ _ e=>e).mono hb6'.size);exact⟨G8,0,0,aO.step Xu hs2 (by rw[g3'];intro e;cases e),hb.set 2 _ rfl,g2',hsw.step hs2 (sF I! []),λe=>B!,λe=>B!,hbl.trans (ho.below (Z? hb6'.size hs.size) λi e=>by rw[show i=PB from e];exact hPw),λi hi=>(hs.old i (Z! hi hb6'.size)).trans (g1 i hi),hPw,g3'⟩
 have ai8:=hQ6.lt;clear hb6 hB6 hQ6 hb6' hPw hG6 g1 g2 g3 HB1 HQ1 lQ hPB hlt hW6;unfold ptr at rZ;go_upto_region 5 with(go_at_call 40;refine rZ.mono ?_;rintro e w8 ⟨sb,rfl,G8,hsw,hs8⟩;have hb8:=HB6.step hs8 (λe=>e);have e2:=hb8.cell 2;have f2:=hb8.frozen 2;have hl8:=hb8.lt;clear hb8)
 have HN0:=A? (Ti w8 G8 sb hsw hs8);clear hsw hs8 e2 f2 hl8 Ti rZ HB6 HQ6 p0 ai8;unfold ptr at HN0;go_wp2;go_loopw[20] (λi wr=>∃j:Nat,j<=2/\i=A! j/\Hid (Qq c G w Q PB sb j wr)) (λi _=>2-(intOf i).toNat)
 case atStart=>exact⟨0,I!,rfl,HN0⟩
 case round=>
  obtain⟨j,hj,rfl,HR⟩:=hrel;clear HN0;rcases(by omega:j=0\/j=1\/j=2)with rfl|rfl|rfl
  .have rC:=A? (HR.out.drew.next I! HC)
   have Xu:A5 c Q wr.drew:=by
    obtain⟨_,_,_,k,_⟩:=HR.out.drew;exact k
   clear HR;unfold ptr at rC;go_wp2;refine dW (A5 c Q) (zca [0,2,4,6,16,18,9,10,12,14,20,23]) (Xu) ?_;refine tK ?_;refine rW (.agg #[A! c.aV,A! c.links,A! c.least,A! c.rate,A! c.cv,A! c.high,A! c.low,A! c.hold,A! c.base,A! c.cap,A! c.restart,A! c.tries,.bool c.short,.string c.bR,.string c.bT,.string c.expect,A! c.cD,A! c.bP]) ba0 (λwS hS=>A4 23 _ rfl Q rfl _ _ _ _ hS underlying23 rfl M?) ?_;simp only[Act.put,υ,ϑ,ϊ];refine tK ?_;refine ai (λK hK=>?_);go_wp2_with(go_at_call 41;refine rC.mono ?_;rintro e w9 ⟨b',rfl,hc9,⟨cs,hb9,hz9⟩,hn9,hq9⟩);refine ah (hK _ _ hc9 ?_);clear hK K rC;refine tK ?_;have e9:=(hb9.cell 0).trans (baD B!);have f9:=hb9.frozen 0;have hl9:=hb9.lt;have HN9:=A? hn9;have HQ9:=A? hq9;clear hb9 hn9 hq9 hc9;unfold ptr at HN9 HQ9;refine ai (λK hK=>?_);go_wp2_with fail;refine ah (hK _ _ HQ9 ?_);clear hK K;refine aj ?_;go_wp2;go_roundw
   case rel=>exact⟨1,I!,rfl,HN9⟩
   case measure=>simp[intOf]
  .have rC:=A? (HR.out.drew.next I! HC)
   have Xu:A5 c Q wr.drew:=by
    obtain⟨_,_,_,k,_⟩:=HR.out.drew;exact k
   clear HR;unfold ptr at rC;go_wp2;refine dW (A5 c Q) (zca [0,2,4,6,16,18,9,10,12,14,20,23]) (Xu) ?_;refine tK ?_;refine rW (.agg #[A! c.aV,A! c.links,A! c.least,A! c.rate,A! c.cv,A! c.high,A! c.low,A! c.hold,A! c.base,A! c.cap,A! c.restart,A! c.tries,.bool c.short,.string c.bR,.string c.bT,.string c.expect,A! c.cD,A! c.bP]) ba0 (λwS hS=>A4 23 _ rfl Q rfl _ _ _ _ hS underlying23 rfl M?) ?_;simp only[Act.put,υ,ϑ,ϊ];refine tK ?_;refine ai (λK hK=>?_);go_wp2_with(go_at_call 41;refine rC.mono ?_;rintro e w9 ⟨b',rfl,hc9,⟨cs,hb9,hz9⟩,hn9,hq9⟩);refine ah (hK _ _ hc9 ?_);clear hK K rC;refine tK ?_;have e9:=(hb9.cell 1).trans (baD B!);have f9:=hb9.frozen 1;have hl9:=hb9.lt;have HN9:=A? hn9;have HQ9:=A? hq9;clear hb9 hn9 hq9 hc9;unfold ptr at HN9 HQ9;refine ai (λK hK=>?_);go_wp2_with fail;refine ah (hK _ _ HQ9 ?_);clear hK K;refine aj ?_;go_wp2;go_roundw
   case rel=>exact⟨2,I!,rfl,HN9⟩
   case measure=>simp[intOf]
  .obtain⟨G',a,b,-,h2,h3,h4,h5,h6,h7,h8,-,-⟩:=HR.out;have HF:Hid (bQ wr G' PB a b sb (.slice none 0 0) (.slice none 0 0) (js c)):=A? ⟨h2,h3,h5 I!,h6 I!,h4,oy.nil _ _ _ _,oy.nil _ _ _ _⟩;have HG:=A? (And.intro h7 h8);clear h2 h3 h4 h5 h6 h7 h8 HR;go_wp2;go_ret2;exact⟨PB,rfl,G',a,b,sb,HF,HG.1,HG.2⟩
end
section
variable{ab:Nat}{m m':fD}{ml:Int}
theorem Iw(k p n:Int)(d:ByteArray)(f:aO w ab 34 #[A! k,A! p,A! n,D? d])(l:p≠0)(u:p≠1):
 G! E? 54 #[ptr pb,ptr ab] w (T! w<|A! 2700):=by
 have g:=f.k 1;have HS:=A?<|mO p w;rw[show(decide (p=0)||K? (p=1))=H! by simp[l,u]]at HS;unfold ptr;exact mfC
theorem MO(k n:Int)(d:ByteArray)(h:bQ w G pb a b sb va vb m)(E:aO w ab 34 #[A! k,A! 0,A! n,D? d])(Z:G ab=free)(a2:cO N m)(b3:N<=40000000000):
 G! E? 54 #[ptr pb,ptr ab] w λe u=>e=.returned (A! (bE m.a d).2)/\∃av,bL G w pb a b sb av vb {m with a:=(bE m.a d).1,cr:=if(bE m.a d).2=0 then m.cr++[d]else m.cr} u:=by
 have a1:=h.step (aB (λ_=>False) G w) λ_ _ e=>e;have a0:aO w.drew ab 34 #[A! k,A! 0,A! n,D? d]:=E;have b4:=E.k 1;have ao:J? w.drew ab 1 0:=E.k 1;have ap:L! w.drew ab 3<|D? d:=E.k 3;have al:L! w.drew pb 0<|ptr a:=h.blk.k 0;have be:ab<w.drew.heap.size:=E.lt;have bf:pb<w.drew.heap.size:=h.blk.lt;have ad:=A?<|mO 0 w
 have F:E! (G! E? 77 #[ptr a,D? d] w.drew λe u=>e=.returned (A! (bE m.a d).2)/\∃A,bQ u A pb a b sb va vb {m with a:=(bE m.a d).1}/\Step iK G w A u/\aO u ab 34 #[A! k,A! 0,A! n,D? d]/\A ab=free):=A? (by
  apply(EJ d a1.adV (.inl rfl) a2.a b3).mono;rintro e u ⟨rfl,A,C,M⟩;exact⟨rfl,A,a1.abW C M,(aB iK G w).trans (M.mono (sE (.inl rfl))),a0.step M (by rw[Z];exact kQ (.inl rfl)),(M.old _ a0.lt).trans Z⟩)
 have ax:=A? a2.ka;generalize bE m.a d=b0 at F|-;obtain⟨C,am⟩:=b0;simp only at F|-;let⟨ae,J⟩:=F?<|if am=0 then m.cr++[d]else m.cr
 rw[J];have gI:=A? J;clear h a1 E a0 Z a2 J;unfold ptr at*
 go_in
 go_wp2_with(go_at_call 45;refine M! ad λbj ba=>?_);refine dW (λu=>J? u ab 1 0/\L! u ab 3 (D? d)/\L! u pb 0 (P? a)) (zcb [13,1,1]) (⟨ao,ap,al⟩) ?_;refine R? ?_;intro K f;go_wp2_with(go_at_call 77;apply F.mono;rintro e w2 ⟨rfl,G2,hp2,hs2,y,gA2⟩);have a6:=y.k 1;have a7:=y.k 3;have a8:L! w2 pb 0<|P? a:=hp2.blk.k 0;refine O! f ⟨a6,a7,a8⟩ ?_;clear f K F ad b4 ao ap al;refine T? ?_;by_cases e0:am=0
 .subst e0;have hd2:=hp2.step (aB (λ_=>False) G2 w2) λ_ _ e=>e;have ag:aO w2.drew ab 34 #[A! k,A! 0,A! n,D? d]:=y;have a9:J? w2.drew ab 1 0:=y.k 1;have aa:L! w2.drew ab 3<|D? d:=y.k 3;have Y:=hd2.blk.k 5;obtain⟨j,z,g,-,-⟩:=hd2.ta.1.form;replace g:va=J! j m.cr.length z:=g;have HX:=A? g;rw[g]at Y;have an:jd fB w2.drew (J! j m.cr.length z) m.cr:=by have:=hd2.ta.1;rw[g]at this;exact this
  have tT:E!<|∀i,(Value.slice j m.cr.length z).ownBlock=C! i->i<w2.drew.heap.size/\i≠pb/\i≠ab:=A? λi hi=>by
   have h2:=hd2.ta.2 i (by rw[g];exact hi);exact naU
  have b1:=hd2.blk.lt;have b2:=ag.lt;have b8:E!<|pb≠ab:=A? λe=>by have:=hd2.tag;rw[e,gA2]at this;cases this
  have B:E!<|∀u,Only (λi=>(Value.slice j m.cr.length z).ownBlock=C! i) w2.drew u->J? u ab 1 0/\L! u ab 3 (D? d)/\L! u pb 5 (J! j m.cr.length z):=A? λu a4=>⟨a4.cell a9 λe=>(tT _ e).2.2 rfl,a4.cell aa λe=>(tT _ e).2.2 rfl,a4.cell Y λe=>(tT _ e).2.1 rfl⟩;have X:=A? an;have H:=A? hd2;have ar:=A?<|hs2.trans<|aB iK G2 w2;have b5:E!<|(m.cr.length+1)*fB.bytes<=140737488355328:=A? (by have:=ax.out;show(m.cr.length+1)*16<=_;omega);clear hd2 ag g an hp2 hs2 y gA2 a6 a7 a8;go_wp2;refine yS (λu=>J? u ab 1 0/\L! u ab 3 (D? d)/\L! u pb 5 (J! j m.cr.length z)) 23 [(0,1),(1,1),(2,1),(3,1),(4,1),(5,1),(6,1),(7,1),(8,1),(9,1),(10,1),(11,1),(12,1),(13,1),(14,1),(15,1),(16,1),(17,1),(20,2),(21,2),(18,0),(19,0),(22,1),(23,0)] ⟨a9,aa,Y⟩ ?_;generalize w2.drew=W at a9 aa Y b1 b2 tT B X H ar|-;refine tL ?_;refine oh λK f=>?_;go_wp2_with fail;refine O! f (B _<|(Only.refl _ W).alloc _) ?_;clear f K;refine oh λK f=>?_;go_wp2_with(at_builtin;refine dz fB rfl _ _ rfl _ m.cr d _ X (λi hi=>(tT i hi).1) rfl _ rfl rfl b5 I! λav ac a5 ho6 hw6=>?_);apply O! f (B _ ho6);clear f K;obtain⟨I,R,rfl,-,-⟩:=a5.form;have O:=H.blk.only ho6 λe=>(tT _ e).2.1 rfl;have b9:=O.cell 5;have bc:=O.frozen 5;have bd:=O.lt;have V:=ay ac pb 5<|J! I (m.cr++[d]).length R
  have a3:∀i,(Value.slice I (m.cr++[d]).length R).ownBlock=C! i->i≠pb/\i<ac.heap.size:=λi hi=>by
   exact nbU
  have D:E! (bL G w pb a b sb (J! I (m.cr++[d]).length R) vb {m with a:=C,cr:=ae} (ac.setCell (B? pb 5) (J! I (m.cr++[d]).length R))):=A? (by
   rw[<-gI.out,G? trivial];let⟨az,b6,b7⟩:=H.ahO (v:=J! I (m.cr++[d]).length R) (cs:=m.cr++[d]) (((ho6.mono λi _ e=>.inr maD)).trans<|V.mono λi _ e=>.inl e) (O.set 5 _ rfl) (a5.heap λi hi=>V.block i (a3 i hi).2 (a3 i hi).1)<|λi hi=>(hw6 i hi).imp (λe=>maD) λe=>⟨e.1,bbQ⟩;exact⟨az,b6,ar.trans b7⟩)
  clear a5 ho6 hw6 O V a3 H X B tT HX gI;refine tL ?_;refine iz λK f=>?_;go_wp2_with fail;refine ah<|f _ _ ?_;clear f K;go_wp2;go_ret;rw[show(m.cr++[d]).length=m.cr.length+1 from X!]at D;exact⟨rfl,_,D⟩
 .have bi:=Q?.2 e0;have D:E!<|bL G w pb a b sb va vb {m with a:=C,cr:=ae} w2:=A? nbv;clear hp2 hs2 y gA2 e0 a6 a7 a8;go_wp2;go_ret;exact⟨rfl,va,D⟩
theorem MQ(k n:Int)(d:ByteArray)(h:bQ w G pb a b sb va vb m)(E:aO w ab 34 #[A! k,A! 1,A! n,D? d])(Z:G ab=free)(a2:cO N m)(b3:N<=40000000000):
 G! E? 54 #[ptr pb,ptr ab] w λe u=>e=.returned (A! (bE m.b d).2)/\∃av,bL G w pb a b sb va av {m with b:=(bE m.b d).1,cH:=if(bE m.b d).2=0 then m.cH++[d]else m.cH} u:=by
 have a1:=h.step (aB (λ_=>False) G w) λ_ _ e=>e;have a0:aO w.drew ab 34 #[A! k,A! 1,A! n,D? d]:=E;have b4:=E.k 1;have ao:J? w.drew ab 1 1:=E.k 1;have ap:L! w.drew ab 3<|D? d:=E.k 3;have al:L! w.drew pb 1<|ptr b:=h.blk.k 1;have be:ab<w.drew.heap.size:=E.lt;have bf:pb<w.drew.heap.size:=h.blk.lt;have ad:=A?<|mO 1 w
 have F:E! (G! E? 77 #[ptr b,D? d] w.drew λe u=>e=.returned (A! (bE m.b d).2)/\∃A,bQ u A pb a b sb va vb {m with b:=(bE m.b d).1}/\Step iK G w A u/\aO u ab 34 #[A! k,A! 1,A! n,D? d]/\A ab=free):=A? (by
  apply(EJ d a1.adW (.inr rfl) a2.b b3).mono;rintro e u ⟨rfl,A,C,M⟩;exact⟨rfl,A,a1.abX C M,(aB iK G w).trans (M.mono (sE (.inr rfl))),a0.step M (by rw[Z];exact kQ (.inr rfl)),(M.old _ a0.lt).trans Z⟩)
 have ax:=A? a2.kb;generalize bE m.b d=b0 at F|-;obtain⟨C,am⟩:=b0;simp only at F|-;let⟨ae,J⟩:=F?<|if am=0 then m.cH++[d]else m.cH
 rw[J];have gI:=A? J;clear h a1 E a0 Z a2 J;unfold ptr at*
 go_in
 go_wp2_with(go_at_call 45;refine M! ad λbj ba=>?_);refine dW (λu=>J? u ab 1 1/\L! u ab 3 (D? d)/\L! u pb 1 (P? b)) (zcb [13,1,1]) (⟨ao,ap,al⟩) ?_;refine R? ?_;intro K f;go_wp2_with(go_at_call 77;apply F.mono;rintro e w2 ⟨rfl,G2,hp2,hs2,y,gA2⟩);have a6:=y.k 1;have a7:=y.k 3;have a8:L! w2 pb 1<|P? b:=hp2.blk.k 1;refine O! f ⟨a6,a7,a8⟩ ?_;clear f K F ad b4 ao ap al;refine T? ?_;by_cases e0:am=0
 .subst e0;have hd2:=hp2.step (aB (λ_=>False) G2 w2) λ_ _ e=>e;have ag:aO w2.drew ab 34 #[A! k,A! 1,A! n,D? d]:=y;have a9:J? w2.drew ab 1 1:=y.k 1;have aa:L! w2.drew ab 3<|D? d:=y.k 3;have Y:=hd2.blk.k 6;obtain⟨j,z,g,-,-⟩:=hd2.tb.1.form;replace g:vb=J! j m.cH.length z:=g;have HX:=A? g;rw[g]at Y;have an:jd fB w2.drew (J! j m.cH.length z) m.cH:=by have:=hd2.tb.1;rw[g]at this;exact this
  have tT:E!<|∀i,(Value.slice j m.cH.length z).ownBlock=C! i->i<w2.drew.heap.size/\i≠pb/\i≠ab:=A? λi hi=>by
   have h2:=hd2.tb.2 i (by rw[g];exact hi);exact naU
  have b1:=hd2.blk.lt;have b2:=ag.lt;have b8:E!<|pb≠ab:=A? λe=>by have:=hd2.tag;rw[e,gA2]at this;cases this
  have B:E!<|∀u,Only (λi=>(Value.slice j m.cH.length z).ownBlock=C! i) w2.drew u->J? u ab 1 1/\L! u ab 3 (D? d)/\L! u pb 6 (J! j m.cH.length z):=A? λu a4=>⟨a4.cell a9 λe=>(tT _ e).2.2 rfl,a4.cell aa λe=>(tT _ e).2.2 rfl,a4.cell Y λe=>(tT _ e).2.1 rfl⟩;have X:=A? an;have H:=A? hd2;have ar:=A?<|hs2.trans<|aB iK G2 w2;have b5:E!<|(m.cH.length+1)*fB.bytes<=140737488355328:=A? (by have:=ax.out;show(m.cH.length+1)*16<=_;omega);clear hd2 ag g an hp2 hs2 y gA2 a6 a7 a8;go_wp2;refine yS (λu=>J? u ab 1 1/\L! u ab 3 (D? d)/\L! u pb 6 (J! j m.cH.length z)) 23 [(0,1),(1,1),(2,1),(3,1),(4,1),(5,1),(6,1),(7,1),(8,1),(9,1),(10,1),(11,1),(12,1),(13,1),(14,1),(15,1),(16,1),(17,1),(20,2),(21,2),(18,0),(19,0),(22,1),(23,0)] ⟨a9,aa,Y⟩ ?_;generalize w2.drew=W at a9 aa Y b1 b2 tT B X H ar|-;refine tL ?_;refine oh λK f=>?_;go_wp2_with fail;refine O! f (B _<|(Only.refl _ W).alloc _) ?_;clear f K;refine oh λK f=>?_;go_wp2_with(at_builtin;refine dz fB rfl _ _ rfl _ m.cH d _ X (λi hi=>(tT i hi).1) rfl _ rfl rfl b5 I! λav ac a5 ho6 hw6=>?_);apply O! f (B _ ho6);clear f K;obtain⟨I,R,rfl,-,-⟩:=a5.form;have O:=H.blk.only ho6 λe=>(tT _ e).2.1 rfl;have b9:=O.cell 6;have bc:=O.frozen 6;have bd:=O.lt;have V:=ay ac pb 6<|J! I (m.cH++[d]).length R
  have a3:∀i,(Value.slice I (m.cH++[d]).length R).ownBlock=C! i->i≠pb/\i<ac.heap.size:=λi hi=>by
   exact nbU
  have D:E! (bL G w pb a b sb va (J! I (m.cH++[d]).length R) {m with b:=C,cH:=ae} (ac.setCell (B? pb 6) (J! I (m.cH++[d]).length R))):=A? (by
   rw[<-gI.out,G? trivial];let⟨az,b6,b7⟩:=H.ahP (v:=J! I (m.cH++[d]).length R) (cs:=m.cH++[d]) (((ho6.mono λi _ e=>.inr maD)).trans<|V.mono λi _ e=>.inl e) (O.set 6 _ rfl) (a5.heap λi hi=>V.block i (a3 i hi).2 (a3 i hi).1)<|λi hi=>(hw6 i hi).imp (λe=>maD) λe=>⟨e.1,bbQ⟩;exact⟨az,b6,ar.trans b7⟩)
  clear a5 ho6 hw6 O V a3 H X B tT HX gI;refine tL ?_;refine iz λK f=>?_;go_wp2_with fail;refine ah<|f _ _ ?_;clear f K;go_wp2;go_ret;rw[show(m.cH++[d]).length=m.cH.length+1 from X!]at D;exact⟨rfl,_,D⟩
 .have bi:=Q?.2 e0;have D:E!<|bL G w pb a b sb va vb {m with b:=C,cH:=ae} w2:=A? nbv;clear hp2 hs2 y gA2 e0 a6 a7 a8;go_wp2;go_ret;exact⟨rfl,vb,D⟩
end
