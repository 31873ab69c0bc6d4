/- Walks and plain laws. -/
import Derived.Test.YtncddkcponjlpaaGreatDoorK37
set_option linter.unusedVariables false
set_option linter.unusedSimpArgs false
set_option maxHeartbeats 0
set_option maxRecDepth 99999
namespace Go.Proofs.YtncddkcponjlpaaGreatDoor
open Go.RowKit Go.Proofs.Tryz
open Go renaming World→D!,Value→I?,Calls→G!,IntKind→ncy
open Go.RowKit renaming Hid→E!
open Decidable renaming decide→K?
open Option renaming some→C!,none→L?
open Bool renaming true→C?,false→H!
open Go.Proofs.Tryz renaming prog→E?
variable{P:Prop}
section
variable{w w1 w2:D!}{G G1 G2:Nat->Tag}{n:Int}{b sb:Nat}{x:eY}{z z':PS}{ml:Int}{m:aF}{id:Int}{N r:Nat}
theorem TS(way:Int)(h:aS w G n b sb x z):G! E? 127 #[ptr b,A! way] w (fu n b sb G w x z ((nD z.1 way).1,z.2)<|H? (nD z.1 way).2):=by
 have Z:=h.p.blk.k 38;have J:=h.p.blk.k 37;have a0:=h.p.blk.k 7;have aa:=h.p.blk.frozen 38;have a9:=h.p.blk.frozen 37;have a8:=h.p.blk.lt;let⟨f,E⟩:=F?<|if way≠z.1.way then 0 else z.1.steady
 have X:nD z.1 way=({z.1 with way:=way,steady:=wrap64 (f+1)},decide (way≠0)&&K? (z.1.c.hold<=wrap64 (f+1))):=by
  unfold nD;rw[<-E];dsimp only;by_cases u:way≠z.1.way
  .rw[G? u,G? u]
  .have:way=z.1.way:=Decidable.byContradiction u;rw[F! u,F! u];subst this;rfl
 have O:E!<|∀w1,Only (λk=>k=b) w w1->aO w1 b 94 (gE x {z.1 with way:=way,steady:=wrap64 (f+1)})->∀v,v=(decide (way≠0)&&K? (z.1.c.hold<=wrap64 (f+1)))->fu n b sb G w x z ((nD z.1 way).1,z.2) (H? (nD z.1 way).2) (.returned<|H? v) w1.drew:=A? λw1 a2 hB v a4=>by
  rw[X,a4];let⟨a6,a7⟩:=h.own (m':={z.1 with way:=way,steady:=wrap64 (f+1)}) a2 hB rfl rfl rfl rfl rfl rfl rfl rfl;exact⟨rfl,_,x,a6.drew,a7.trans<|aB _ _ _,λ_ _=>rfl⟩
 have B:=(h.p.blk.set 37 (A!<|wrap64<|f+1) rfl);have V:=(((h.p.blk.set 38 (A! way) rfl).set 37 (A! 0) rfl).set 37 (A!<|wrap64<|f+1) rfl)
 have D:E!<|way=z.1.way->aO (w.setCell (B? b 37)<|A!<|wrap64<|f+1) b 94 (gE x {z.1 with way:=way,steady:=wrap64 (f+1)}):=A? λe=>by
  rw[e];exact B
 have C:E!<|aO (((w.setCell (B? b 38)<|A! way).setCell (B? b 37)<|A! 0).setCell (B? b 37)<|A!<|wrap64<|f+1) b 94<|gE x {z.1 with way:=way,steady:=wrap64 (f+1)}:=A? V;let⟨M,K⟩:=F? z.1.way;let⟨I,Y⟩:=F? z.1.steady;let⟨A,F⟩:=F? z.1.c.hold;rw[K]at Z E D;rw[Y]at J E;rw[F]at a0 O;have W:=A? F;clear h X B V K Y F;unfold ptr;by_cases u:way=M
 .rw[F!<|λe=>e u]at E;subst E;have a3:(way !=M)=false:=by rw[u];simp
  have y:=A?<|D u;clear u D C;have R:J? (w.setCell (B? b 37)<|A!<|wrap64<|I+1) b 37<|wrap64<|I+1:=y.k 37;have H:(w.setCell (B? b 37)<|A!<|wrap64<|I+1).cell? (B? b 7)=N? A:=(aO.cell y 7).trans (by rw[<-W.out];rfl);have L:=A?<|O _ (ay w b 37 _) y;clear O;by_cases j:way=0
  .subst j;go_wp2;refine dW (λg=>J? g b 37 (wrap64<|I+1)/\J? g b 7 A) (zcb [15]) (⟨R,H⟩) ?_;refine T? ?_;go_wp2;go_ret;exact L _ rfl
  .have a5:(way !=0)=true:=by simp[j]
   go_wp2
   refine dW (λg=>J? g b 37 (wrap64<|I+1)/\J? g b 7 A) (zcb [15]) (⟨R,H⟩) ?_;refine T? ?_;go_wp2;go_ret;exact L _ (by rw[b! j];rfl)
 .rw[G? u]at E;subst E;have a3:(way !=M)=true:=by simp[u]
  have a1:wrap64 (0+1)=1:=by unfold wrap64;omega
  rw[a1]at C O;have y:=C;clear u D C;have R:J? (((w.setCell (B? b 38)<|A! way).setCell (B? b 37)<|A! 0).setCell (B? b 37)<|A!<|1) b 37<|1:=y.k 37;have H:(((w.setCell (B? b 38)<|A! way).setCell (B? b 37)<|A! 0).setCell (B? b 37)<|A!<|1).cell? (B? b 7)=N? A:=(aO.cell y 7).trans (by rw[<-W.out];rfl);have L:=A?<|O _ (((ay w b 38 _).trans<|ay _ b 37 _).trans<|ay _ b 37 _) y;clear O;by_cases j:way=0
  .subst j;go_wp2;refine dW (λg=>J? g b 37 (1)/\J? g b 7 A) (zcb [15]) (⟨R,H⟩) ?_;refine T? ?_;go_wp2;go_ret;exact L _ rfl
  .have a5:(way !=0)=true:=by simp[j]
   go_wp2
   refine dW (λg=>J? g b 37 (1)/\J? g b 7 A) (zcb [15]) (⟨R,H⟩) ?_;refine T? ?_;go_wp2;go_ret;exact L _ (by rw[b! j];rfl)
theorem X0(q:Int->Bool)(R:List Int)(j:Nat)(e:j<R.length):((R.take<|j+1).filter q).getLast? =if q R[j]then C! R[j]else((R.take j).filter q).getLast? :=by
 rw[zx q R j e];split
 .rw[List.getLast?_concat]
 .rfl
def My(x:eY)(o:Option Int):Value:=match o with|some k=>ptr (x.f k)|none=>.pointer L?
theorem Mz(h:cg w G n b x m)(F:ct N r m)(O:m.links.length<=8)(Q:N<=40000000000):
 G! E? 133 #[ptr b] w (S? w<|My x<|lD m):=by
 have E:=A?<|vR h F O Q
 have L:E!<|∀k∈dR m,∃y,aO w (x.f k) 107<|bS y<|lk m k:=A? λk Z=>by
  let⟨y,d⟩:=h.mG<|nW Z;exact⟨y,d.blk⟩
 have H:(dR m).length<=8:=by rw[j8];exact O
 unfold wU at E;have C:E!<|lD m=((dR m).filter λid=>K? ((lk m id).phase=4)).getLast?:=A? rfl;generalize dR m=R at E L H C;clear h F O;unfold ptr at*
 go_in
 go_wp2_with(go_at_call 47;apply E.mono;rintro e w2 ⟨v,rfl,W,A⟩;obtain⟨a,c,rfl,Y⟩:=qI W;rw[g!]);have V:=A?<|Y.imp (λe=>List.map_eq_nil_iff.1 e) id;have D:=A? A;have a7:=A.size;clear Y W A E;let⟨f,S⟩:=F? R.length;rw[S]at H|-;have HN:=A? S;clear S;go_wp2;go_loopw[3,9] (λa2 i wr=>∃j:Nat,j<=f/\i=A! j/\wr=w2/\E! (a2=My x ((R.take j).filter<|λid=>K? ((lk m id).phase=4)).getLast?)) (λ_ i _=>f-(intOf i).toNat)
 case atStart=>exact⟨0,S! _,rfl,rfl,A? rfl⟩
 case round=>
  obtain⟨j,a5,rfl,rfl,I⟩:=hrel;by_cases tN:j<f
  .rcases V with e|⟨a3,a8,rfl,a4,-,hcell⟩
   .have:=HN.out;rw[e]at this;simp at this;omega
   have uL:j<R.length:=mcJ;have B:=hcell j mdv;rw[bb2]at B;let⟨y,d⟩:=L _<|l! uL;have u:=(D.block _ d.lt).trans d;have u:aO wr (x.f R[j]) 107<|bS y<|lk m R[j]:=u;have a0:=u.lt;have l:=A?<|X0 (λid=>K? ((lk m id).phase=4)) R j uL;have M:=u.k 3;generalize R[j]=K at B l M a0;generalize (lk m K).phase=J at M l;clear hcell d u;unfold ptr at*
   by_cases g:J=4
   .subst g;go_wp2;go_roundw
    case rel=>exact⟨j+1,B!,W!,trivial,A?<|by rw[l.out,G? I!];rfl⟩
    case measure=>simp[intOf];omega
   .have a6:=Q?.2 g;have X:=A?<|(l).trans<|F!<|by rw[W? g];decide
    clear g l;go_wp2;go_roundw
    case rel=>exact⟨j+1,B!,W!,trivial,A?<|by rw[X.out];exact I.out⟩
    case measure=>simp[intOf];omega
  .obtain rfl:j=f:=B!;have a1:E!<|u3=My x (lD m):=A? (by rw[I.out,C.out,<-HN.out,v!]);clear I;go_wp2;go_ret;refine⟨?_,D⟩
   first|rfl|(rw[a1.out];rfl)
end
