/- Walks and plain laws. -/
import Derived.Test.YtncddkcponjlpaaGreatDoorK33
set_option linter.unusedVariables false
set_option linter.unusedSimpArgs false
set_option maxHeartbeats 0
set_option maxRecDepth 99999
namespace Go.Proofs.YtncddkcponjlpaaGreatDoor
open Go.RowKit Go.Proofs.Tryz
open Go renaming World→D!,Value→I?,Calls→G!,IntKind→ncy
open Go.RowKit renaming Hid→E!
open Decidable renaming decide→K?
open Option renaming some→C!,none→L?
open Bool renaming true→C?,false→H!
open Go.Proofs.Tryz renaming prog→E?
variable{P:Prop}
variable{w w1 w2:D!}{G G1 G2:Nat->Tag}{n ml id:Int}{b sb N r:Nat}{x:eY}{z z':PS}{m:aF}
theorem jZ.good{s:aU}(h:jZ N s):Cv s:=
 ⟨h.p1,h.p8,by rw[h.mo];decide,by rw[h.mo];decide,h.l0,h.o0,h.up,h.nd,h.key,
   λk c e=>by rw[h.mo];exact⟨⟨(h.Ss k c e).1.b0,(h.Ss k c e).1.b1,(h.Ss k c e).1.lo⟩,⟨(h.Ss k c e).2.b0,(h.Ss k c e).2.b1,(h.Ss k c e).2.lo⟩⟩,
   λk c e=>⟨(h.Ss k c e).1.sm,(h.Ss k c e).2.sm⟩⟩
theorem Kp(u:Int)(h:aS w G n b sb x z)(a8:Env w G ml)(g:Fit N r z)(a7:N<=40000000000)(a4:0<=u)(a5:u<=65535):
 G! E? 131 #[ptr b,A! u] w (fu n b sb G w x z (vu z u) (.tuple #[])):=by
 have O:=h.drew
 have V:w.drew.cell? (B? b 27)=C! (ptr sb):=by
  have:L! w.drew b 27<|vE x.s:=O.p.blk.cell 27;rw[this,h.xs];rfl
 have H:=O.p.blk.k 18;have aa:=g.p.sd;have j:=A?<|Wa z.1.side (1-z.1.side) O.s (jZ.good g.s) (by have:=g.s.o1;omega) (by have:=g.s.ln;omega) B!;have L:=h.n01;have a1:=A? a8.drew;have R:E!<|(lz z.2 z.1.side<|1-z.1.side).2.2=0->(lz z.2 z.1.side<|1-z.1.side).2.1=z.2.last+1:=A? λe=>by rw[(Pb e).1]
 have A:E!<|vu z u=if(lz z.2 z.1.side<|1-z.1.side).2.2≠0 then(rq z.1,(lz z.2 z.1.side<|1-z.1.side).1)else(jC z.1 (lz z.2 z.1.side<|1-z.1.side).2.1 u C?,(lz z.2 z.1.side<|1-z.1.side).1):=A? rfl
 generalize lz z.2 z.1.side (1-z.1.side)=a2 at j R A;obtain⟨J,a0,a3⟩:=a2;simp only at j R A;generalize z.1.side=B at H j aa
 have hS:E! (∀W y,Step (aq [2]) G w.drew W y->y.cell? (B? b 27)=C! (ptr sb)/\y.cell? (B? b 18)=N? B):=A? λW y hs=>⟨hs.cell V (by
  show¬aq [2] (G b);rw[h.p.tag];intro e;simp[aq]at e;rcases L with h|h<;>omega),hs.cell H (by
  show¬aq [2] (G b);rw[h.p.tag];intro e;simp[aq]at e;rcases L with h|h<;>omega)⟩
 unfold Gp at j;unfold ptr at*
 go_wp2
 refine dW (λy=>L! y b 27 (P? sb)/\J? y b 18 B) (zcb [13,1,5]) (⟨V,H⟩) ?_;refine R? ?_;intro ab a6;go_wp2_with(go_at_call 174;apply j.mono;rintro e w1 ⟨rfl,G1,a9,K⟩);apply O! a6 (hS _ _ K);refine T? ?_;let⟨X,Z⟩:=O.switch K a9;have Y:=A?<|(aB (bG n) G w).trans Z;by_cases E:a3=0
 .have f:=Ko (id:=a0) u C? X (a1.uM L Z) g.p (tz g.p (by rw[R E];have:=g.la;show z.1.last<z.2.last+1;omega)) a4 a5 a7;have f:=A? f;have I:E!<|vu z u=(jC z.1 a0 u C?,J):=A? (by rw[A.out,F!<|by simpa using E]);subst E;unfold ptr at f;go_wp2_with(go_at_call 115;apply f.mono;rintro e w2 ⟨rfl,G2,F,D,C,M⟩);go_end0;refine⟨rfl,G2,F,?_,Y.trans C,M⟩;rw[I.out];exact D
 .have f:=zX X g.p B!;have f:=A? f;have I:E!<|vu z u=(rq z.1,J):=A? (by rw[A.out,G? E]);have ac:=Q?.2 E;unfold ptr at f;go_wp2_with(go_at_call 150;apply f.mono;rintro e w2 ⟨rfl,G2,F,D,C,M⟩);go_end0;refine⟨rfl,G2,F,?_,Y.trans C,M⟩;rw[I.out];exact D
