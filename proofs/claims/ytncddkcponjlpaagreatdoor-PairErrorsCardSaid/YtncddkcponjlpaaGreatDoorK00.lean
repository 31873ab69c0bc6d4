/- Walks and plain laws. -/
import Derived.BigQuiet
import Derived.ChangeKeysEq
import Derived.ChangeOld
import Derived.Deep.AppendSrc
import Derived.Deep.CutBlock
import Derived.Deep.CutRange
import Derived.Deep.DeepCutAuto
import Derived.Deep.DeepHandedRow
import Derived.Deep.RegionHeld3
import Derived.Deep.RegionWith
import Derived.Deep.WholeRow
import Derived.Great.Walk
import Derived.Handy
import Derived.LaidByTextLater
import Derived.LaidOnce
import Derived.Laws.AppendOwnNone
import Derived.Laws.BitsAllLaws
import Derived.Laws.IdiomStrings
import Derived.Laws.MakeOwn
import Derived.Laws.StructEq
import Derived.Lib.AppendStr
import Derived.Lib.Builder
import Derived.Lib.ConvBytes
import Derived.Lib.Hide
import Derived.Lib.SmallJoins
import Derived.Lib.Strings
import Derived.Lib.UnsafeStr
import Derived.MapKept
import Derived.Maps.AppendAt
import Derived.Maps.OwnOps
import Derived.Maps.OwnSet
import Derived.Maps.RangeRun
import Derived.Maps.RangeWalk
import Derived.OpenShut
import Derived.OrdersHeld
import Derived.Outline
import Derived.ProofKit
import Derived.RegionTactic
import Derived.SevenTiedAt
import Derived.Shelf.SlIterI.Sorted
import Derived.Shelf.Slices.In.SortNone
import Derived.Shelf.Small.Strs
import Derived.Shelf.Sort.Plain
import Derived.Shelf.Strings.Builder1
import Derived.Shelf.Strings.Cut
import Derived.Shelf.Strings.Split
import Derived.Shelf.Vars
import Derived.ShutString
import Derived.SizedLaws
import Derived.SliceStrings
import Derived.StillTail
import Derived.StillTailTactics
import Derived.Test.YtncddkcponjlpaaGreatDoorCards
import Derived.Test.YtncddkcponjlpaaGreatDoorRows
import Derived.WalkKit
import Derived.WalkLawsBesides
import Derived.WalkSpells
set_option linter.unusedVariables false
set_option linter.unusedSimpArgs false
set_option maxHeartbeats 0
set_option maxRecDepth 99999
namespace Go.Proofs.YtncddkcponjlpaaGreatDoor
open Go.RowKit Go.Proofs.Tryz
open Go renaming World→D!,Value→I?,Calls→G!,IntKind→ncy
open Go.RowKit renaming Hid→E!
open Decidable renaming decide→K?
open Option renaming some→C!,none→L?
open Bool renaming true→C?,false→H!
open Go.Proofs.Tryz renaming prog→E?
variable{P:Prop}
abbrev B?(b i:Nat):Addr:=⟨b,i,none⟩
abbrev A!(x:Int):Value:=.int .i64 x
abbrev N?(x:Int):Option Value:=some (.int .i64 x)
abbrev K!(w W:World):Prop:=Below w.heap.size w W
abbrev S?(w:World)(v:Value)(e:Ending)(t:World):Prop:=e=.returned v∧Below w.heap.size w t
abbrev T!(w:World)(v:Value)(e:Ending)(t:World):Prop:=e=.returned v∧t=w
abbrev xaa:Array Value:=#[.bool false,.bool false,A! 0,.string ⟨#[]⟩]
abbrev xab:Array Value:=#[A! 7,A! 12,A! 17,A! 22,A! 5,A! 9,A! 14,A! 20,A! 4,A! 11,A! 16,A! 23,A! 6,A! 10,A! 15,A! 21]
abbrev xac:Array Value:=#[A! 0,A! 0,.slice none 0 0,.string ⟨#[]⟩]
abbrev xad:Array Value:=#[A! 0,A! 0,.string ⟨#[]⟩,.string ⟨#[]⟩]
abbrev xae:Array Value:=#[A! 0,A! 0,A! 0,.slice none 0 0]
abbrev xaf:Array Value:=#[A! 0,A! 0,A! 0,.bool false,.string ⟨#[]⟩,A! 0]
abbrev xag:Array Value:=#[.int .i64 0,.int .i64 0,.int .i64 0,.slice none 0 0]
abbrev xah:Array Value:=#[.pointer none,.pointer none,.pointer none,A! 0,A! 0,.slice none 0 0,.slice none 0 0]
abbrev xai:Array Value:=#[.pointer none,.slice none 0 0]
abbrev xaj:Array Value:=#[A! 0,A! 0,.slice none 0 0,.string ⟨#[]⟩,A! 0,A! 0,.slice none 0 0]
abbrev xak:Array Value:=#[A! 4,A! 3,A! 1,A! 256,A! 16,A! 800,A! 200,A! 2,A! 2,A! 4,A! 2,A! 3,.bool false,.string ⟨#[115]⟩,.string ⟨#[115]⟩,.string ⟨#[115]⟩,A! 1,A! 2]
abbrev xal:Array Value:=#[.agg #[A! 0,A! 0,A! 0,.bool false,.string ⟨#[]⟩,A! 0],A! 1400]
abbrev xam:Array Value:=#[.slice none 0 0,A! 0,A! 0,.slice none 0 0,A! 0,A! 0]
abbrev xan:Array Value:=#[A! 7,A! 12,A! 17,A! 22]
abbrev xao:Array Value:=#[A! 4,A! 11,A! 16,A! 23]
abbrev xap:Array Value:=#[A! 6,A! 10,A! 15,A! 21]
abbrev xaq:Array Value:=#[A! 0,.string ⟨#[]⟩]
abbrev xar:Array Value:=#[A! 5,A! 9,A! 14,A! 20]
abbrev xas:Array Value:=#[.agg #[.int .i64 0,.int .i64 0,.int .i64 0,.slice none 0 0],.int .i64 900]
abbrev xat:Array Value:=#[.agg #[A! 0,A! 0,A! 0,.slice none 0 0],A! 900]
abbrev xau:Array Value:=#[.agg #[A! 0,A! 0,.slice none 0 0,.string ⟨#[]⟩],.bool false]
abbrev xav:Array Value:=#[.agg #[.bool false,.bool false,A! 0,.string ⟨#[]⟩],A! 2003]
abbrev xaw:Array Value:=#[.string ⟨#[]⟩,.bool false,.bool true]
abbrev xax:Array Value:=#[.string ⟨#[104,105]⟩]
abbrev xay:Array Value:=#[.int .i64 0,.int .i64 0,.slice none 0 0,.string ⟨#[]⟩]
abbrev xaz:Array Value:=#[.agg #[A! 0,A! 0,A! 0,.slice none 0 0],A! 2202]
abbrev xaA:Array Value:=#[.agg #[A! 0,A! 0,A! 0,.slice none 0 0],A! 901]
abbrev xaB:Array Value:=#[A! 6,A! 0,.slice none 0 0,.string ⟨#[]⟩]
abbrev xaC:Array Value:=#[.slice none 0 0,A! 1501]
theorem F?{e:Sort _}(a:e):∃b,a=b:=⟨_,rfl⟩
theorem M!{p:Program}{f:FuncId}{a:Array Value}{w:World}{v:Value}{R:World→Prop}{Q:Ending→World→Prop}(h:Calls p f a w λe w=>e=.returned v∧R w)(k:∀w,R w→Q (.returned v) w):Calls p f a w Q:=by
 apply h.mono
 rintro e w ⟨rfl,h⟩
 exact k w h
theorem d!{p:Program}{f:FuncId}{a:Array Value}{w:World}{v:Value}{R:World→Prop}{Q:Ending→World→Prop}(h:Calls p f a w λe w=>e=.returned v∧R w)(k:Q (.returned v) w)(e:∀W,R W→W=w:=by intro _ h;first|exact h|exact h.symm):Calls p f a w Q:=by
 apply h.mono
 rintro _ W ⟨rfl,h⟩
 rw[e W h]
 exact k
theorem nct{P Q:Prop}(k:Q)(h:Hid Q→P:=by
 intro kk
 go_wp2_with fail
 go_ret
 exact kk.out):P:=h (Lib.hid k)
theorem ncw{P Q:Prop}(k:Q)(h:Hid Q→P:=by
 intro kk
 go_wp2_with fail
 go_ret2
 exact kk.out):P:=h (Lib.hid k)
theorem ncr{P Q:Prop}(k:Q)(h:Hid Q→P:=by
 intro kk
 go_wp2_with fail
 go_end0
 exact kk.out):P:=h (Lib.hid k)
theorem ncv{P Q:Prop}(k:Q)(h:Hid Q→P:=by
 intro kk
 go_wp2_with fail
 go_ret3
 exact kk.out):P:=h (Lib.hid k)
theorem R?{P Q:Prop}(k:Q)(h:Hid Q→P:=by
 intro kk
 refine tK ?_
 exact ai kk.out):P:=h (Lib.hid k)
theorem T?{P Q:Prop}(k:Q)(h:Hid Q→P:=by
 intro kk
 refine tK ?_
 exact aj kk.out):P:=h (Lib.hid k)
abbrev L!(w:World)(b i:Nat)(v:Value):Prop:=w.cell? ⟨b,i,none⟩=some v
abbrev J?(w:World)(b i:Nat)(x:Int):Prop:=w.cell? ⟨b,i,none⟩=some (.int .i64 x)
abbrev ncq(w:World)(b i:Nat)(v:Value):World:=w.setCell ⟨b,i,none⟩ v
abbrev ncs(w:World)(c:Array Value)(t:TypeId):World:=w.alloc (.cells c t)
abbrev Q!:Value:=.slice none 0 0
abbrev P?(b:Nat):Value:=.pointer (some ⟨b,0,none⟩)
abbrev D?(s:ByteArray):Value:=.string s
abbrev H?(b:Bool):Value:=.bool b
abbrev J!(a:Option Addr)(l c:Nat):Value:=.slice a l c
abbrev ncu(w:World):Nat:=w.heap.size
theorem U?{n:Nat}{w:World}:Below n w w:=Below.refl n w
theorem R!{w:World}{o:Obj}:Below w.heap.size w (w.alloc o):=(Below.refl _ _).alloc (Nat.le_refl _) o
theorem O?{n:Nat}:n≤n:=Nat.le_refl n
theorem B!(h:P:=by omega):P:=h
theorem I!(h:P:=by decide):P:=h
theorem M?(h:P:=by kernel_rfl):P:=h
theorem N!(h:P:=by simp):P:=h
theorem ϕ(h:P:=by repeat(first|exact Below.refl _ _|apply ak|apply aQ)):P:=h
theorem W!(h:P:=by go_num):P:=h
theorem baK(h:P:=by simp[results,Tryz.results210,go_sem,k0,k1,k2,k3]):P:=h
theorem χ(h:P:=by simp[World.cell?_alloc_new]):P:=h
theorem ϖ(h:P:=by rw[World.cell?_alloc_new];rfl):P:=h
theorem Δ(h:P:=by rw[HN.out];exact hlt):P:=h
theorem baY(h:P:=by rw[←hw1,←hQ];exact aO.new _ _ _):P:=h
theorem p!(h:P:=by simp;omega):P:=h
theorem ϰ(h:P:=by simp[World.frozen?,hz2]):P:=h
theorem ϳ(h:P:=by simp[World.frozen?,hz3]):P:=h
theorem ϡ(h:P:=by simp[World.frozen?,hz8]):P:=h
theorem mbP(h:P:=by have:=Dn (t:=(bu s.data.toList).1) (by rw[h3];simp);rw[h3]at this;simp at this;omega):P:=h
theorem Γ(h:P:=by simp[go_sem]):P:=h
theorem ϧ(h:P:=by simp[World.cell?,hz2]):P:=h
theorem ϥ(h:P:=by simp[World.cell?,hz3]):P:=h
theorem ϲ(h:P:=by simp[World.cell?,hz8]):P:=h
theorem bab(h:P:=by rw[List.length_cons];omega):P:=h
theorem ϩ(h:P:=by simp[World.cell?,hb]):P:=h
theorem ban(h:P:=by unfold Addr.add;split<;>simp_all):P:=h
theorem bcg(h:P:=by have h1:=hy.gn;rw[←e,←HB.out,hy.tag]at h1;simp at h1):P:=h
theorem bbH(h:P:=by have:=hb1.size;simp at this;omega):P:=h
theorem o!(h:P:=by cases hk):P:=h
theorem md7(h:P:=by rw[World.cell?_of_block (by exact e2)];exact h.side.tab v s hv hs):P:=h
theorem π(h:P:=by go_simp;done):P:=h
theorem maK(h:P:=by rw[h3]at hxk;injection hxk with _ h;exact h.symm):P:=h
theorem bay(h:P:=by rw[←hW];exact(ed _ _ _ _ _).1):P:=h
theorem bbE(h:P:=by rw[←hW];exact(ed _ _ _ _ _).2):P:=h
theorem mbZ(h:P:=by show¬aq [n,1] (grow GW W.heap.size free Q);rw[XJ];exact hnt):P:=h
theorem bci(h:P:=by show some (Value.bool m.failed)=_;rw[HF.out]):P:=h
theorem baQ(h:P:=by rw[hu];exact aq.self _):P:=h
theorem bbS(h:P:=by rintro(h|h);exact h h1;exact h2 h):P:=h
theorem bbi(h:P:=by have:=hf.l8;have:=hf.p.cfg.p8;omega):P:=h
theorem Ψ(h:P:=by rw[e,h.tag]):P:=h
theorem mcF(h:P:=by first|exact kZ|(simp only[List.length_cons]at kZ;omega)):P:=h
theorem ma5(h:P:=by have h1:=hy.gn;rw[e,Kq.out]at h1;simp at h1):P:=h
theorem mcC(h:P:=by first|omega|(simp only[List.length_cons]at kZ;omega)):P:=h
theorem bbm(h:P:=by rw[h.tl];exact cQ (by decide)):P:=h
theorem bbR(h:P:=by rw[h.tp];exact cQ (by decide)):P:=h
theorem bba(h:P:=by rw[h.tv];exact cQ (by decide)):P:=h
theorem bac(h:P:=by rw[←hw1];exact R!):P:=h
theorem bcq(h:P:=by simp[results,Tryz.results237,go_sem]):P:=h
theorem bau(h:P:=by simp[World.cell?,hh4]):P:=h
theorem bao(h:P:=by unfold maxLen;omega):P:=h
theorem ba3(h:P:=by rw[HM.out];rfl):P:=h
theorem mcQ(h:P:=by show some (Value.int .i64 c.code)=_;rw[Sl.out]):P:=h
theorem baq(h:P:=by simp[World.cell?,ha]):P:=h
theorem mbH(h:P:=by rw[Int.tmod_eq_emod_of_nonneg (by omega)];omega):P:=h
theorem bck(h:P:=by rw[h.tag];exact hn _ (aq.self _)):P:=h
theorem mby(h:P:=by show((oW _ _ _ q:Nat):Int)=_;rw[ui _ _ _ _ hq]):P:=h
theorem maO(h:P:=by rw[←hW];exact(ak R! _).drew.drew):P:=h
theorem mbR(h:P:=by simp[results,Tryz.results287,go_sem,k0,k1]):P:=h
theorem baC(h:P:=by rw[hr.out];rfl):P:=h
theorem ncA(h:P:=by first|exact .inl ⟨rfl,rfl,rfl⟩|exact .inr ⟨rfl,rfl,rfl⟩|exact .inl ⟨trivial,rfl,rfl⟩|exact .inr ⟨trivial,rfl,rfl⟩):P:=h
theorem mdq(h:P:=by rw[HL0.out,if_neg (by simp),if_neg (by simp),if_neg (by simp)]):P:=h
theorem ncW(h:P:=by rw[←hP7];exact⟨by show P5.now=_;rw[HE5.1,HE4.2.1,HE3.2.1,tU.2.1],by show P5.c=_;rw[HE5.2.1,HE4.2.2.1,HE3.2.2.1,tU.2.2.1]⟩):P:=h
theorem bbh(h:P:=by show(0:Int)≤10;decide):P:=h
theorem nb8(h:P:=by have h1:(lk PX id).out.length≤40000*r:=(DM.p.link mP).1.out;show(lk PX id).out.length+4110*ps5.length≤1099511627776;omega):P:=h
theorem bbW(h:P:=by rw[e];exact Nat.le_refl _):P:=h
theorem baJ(h:P:=by rw[Db];simp):P:=h
theorem mde(h:P:=by rw[List.take_succ_eq_append_getElem hk1,List.map_append];rfl):P:=h
theorem bb6(h:P:=by rw[h.tag];exact mX):P:=h
theorem bav(h:P:=by cases d<;>exact h):P:=h
theorem mdm(h:P:=by have:=h.blk.cell 1;rw[this];show some (vE x.pf)=_;rw[hpf];rfl):P:=h
theorem meg(h:P:=by cases e:au q.lanes k with|true=>rfl|false=>exact absurd e hk):P:=h
theorem ϯ(h:P:=by rw[HM.out]):P:=h
theorem bcl(h:P:=by rw[←hw3];exact aO.new _ _ _):P:=h
theorem na4(h:P:=by simp[results,Tryz.results156,go_sem,k0,k1,tN,pF];try rfl):P:=h
theorem bap(h:P:=by dsimp only;omega):P:=h
theorem bcu(h:P:=by rw[aA];unfold maxLen;omega):P:=h
theorem bce(h:P:=by rw[e2];exact Int.le_refl _):P:=h
theorem bcy(h:P:=by rw[←hP];exact λk h=>h):P:=h
theorem bbk(h:P:=by rw[i9];exact hnd.out):P:=h
theorem baS(h:P:=by decide+kernel):P:=h
theorem bcm(h:P:=by rw[h3];simp):P:=h
theorem baI(h:P:=by assumption):P:=h
theorem bcj(h:P:=by rw[IntKind.wrap_u32];omega):P:=h
theorem mc5(h:P:=by simp only[List.length_cons];omega):P:=h
theorem mdG(h:P:=by simp[IntKind.wrap,IntKind.bits,IntKind.signed];omega):P:=h
theorem mgn(h:P:=by simp[results,Tryz.results156,go_sem,k0,k1,pF];rfl):P:=h
theorem ncI(h:P:=by have h1:(lk P1 id).out.length≤40000*r:=(HF1.p.link HK1).1.out;show(lk P1 id).out.length≤_;omega):P:=h
theorem mc7(h:P:=by rw[List.length_append];simp;omega):P:=h
theorem naC(h:P:=by simp[results,Tryz.results163,go_sem,a0,a1,a2,a3]):P:=h
theorem md0(h:P:=by first|exact hn|(simp at hn;omega)):P:=h
theorem ma1(h:P:=by show(0:Int)≤_;decide):P:=h
theorem ϭ(h:P:=by cases hx):P:=h
theorem mdH(h:P:=by rcases hi with⟨rfl,rfl⟩|⟨rfl,rfl⟩<;>rfl):P:=h
theorem bbL(h:P:=by simp[hb1,hb2]):P:=h
theorem mei(h:P:=by simp[results,Tryz.results159,go_sem,ic,aK,gM]):P:=h
theorem mge(h:P:=by simp[results,Tryz.results161,go_sem,nS,dc,eZ]):P:=h
theorem mdR(h:P:=by rw[Int.tdiv_eq_ediv_of_nonneg (by omega)];omega):P:=h
theorem mdt(h:P:=by rw[hs.old k (aD.lt h.seq k hk)];exact h.nv k hk):P:=h
theorem mdW(h:P:=by unfold eT;rw[if_neg (by simp),if_pos rfl,hv]):P:=h
theorem naX(h:P:=by rw[←HB3.out];exact fJ h5 (id:=id) (HK3 id HK) (by show(lk P3 id).id=id;rw[HL3.out];exact xO)):P:=h
theorem mek(h:P:=by first|(rw[←IX];done)|(rw[←IX];exact Oa)):P:=h
theorem bb4(h:P:=by simpa using h):P:=h
theorem bbX(h:P:=by rw[hgs,oD];simp):P:=h
theorem bbw(h:P:=by rw[←hwd];exact aQ U?):P:=h
theorem na0(h:P:=by simp[results,Tryz.results159,go_sem,ic,zb]):P:=h
theorem mbC(h:P:=by rw[HM.out];exact bq.nil _ _ _):P:=h
theorem mbc(h:P:=by rw[←hw2];exact aO.new _ _ _):P:=h
theorem mdj(h:P:=by show au p1.links k=true;rw[Gh.1];exact hk):P:=h
theorem ba7(h:P:=by simp at e):P:=h
theorem mdf(h:P:=by simpa using heap_alloc_last (w.alloc _) _):P:=h
theorem mbs(h:P:=by rw[←qJ];exact λi h=>h):P:=h
theorem ϱ(h:P:=by cases e):P:=h
theorem mdo(h:P:=by have:=HLn.out;rw[aA];unfold maxLen;omega):P:=h
theorem mbY(h:P:=by injection e with e1 e2;omega):P:=h
theorem bbt(h:P:=by rw[hv];exact e):P:=h
theorem nb2(h:P:=by rw[show Lib.strCells news=Lib.byteCells news.data.toList from rfl];simp[Lib.byteCells]):P:=h
theorem mcv(h:P:=by simpa using h1):P:=h
theorem bcs(h:P:=by have:=OI.out;omega):P:=h
theorem mdA(h:P:=by rw[Nat.mul_comm];exact hj):P:=h
theorem bbQ(h:P:=by rw[lM];exact e.2):P:=h
theorem meb(h:P:=by repeat(first|exact hB|apply ak|apply aQ)):P:=h
theorem maD(h:P:=by rw[HX.out];exact e):P:=h
theorem bcI(h:P:=by rw[pQ.out];simp[]):P:=h
theorem naD(h:P:=by rw[show((P4,z.2):PS).1.changes=P4.changes from rfl,HE4.1,HE3.1,tU.1];exact BI):P:=h
theorem nbZ(h:P:=by rw[←hR,List.length_drop,List.length_take];simp only[List.length_cons];omega):P:=h
theorem bbl(h:P:=by rw[←jA];rfl):P:=h
theorem na5(h:P:=by simp[results,Tryz.results157,go_sem]):P:=h
theorem mdU(h:P:=by simp[results,Tryz.results176,go_sem]):P:=h
theorem na1(h:P:=by simp[results,Tryz.results270,go_sem]):P:=h
theorem ncc(h:P:=by rw[←hW0];exact((Only.refl (λi=>i=b) w).set (.inl rfl) _).set (.inl rfl) _):P:=h
theorem bam(h:P:=by rw[aA];rfl):P:=h
theorem nbN(h:P:=by rw[←hP3];exact(aG (λl=>{l with phase:=4}) (tG id HK) k).trans (tG k hk)):P:=h
theorem bbe(h:P:=by rw[aA];omega):P:=h
theorem ncf(h:P:=by rw[←hP7];exact(aG (λl=>lC l MG) (HK5 id HK) id).trans (HK5 id HK)):P:=h
theorem mbT(h:P:=by rw[HQB.out];exact hq3):P:=h
theorem nc3(h:P:=by unfold bt;rw[List.find?_eq_none.2 (λx hx=>by rw[hn x hx];decide)];rfl):P:=h
theorem md3(h:P:=by rw[←hW];exact ak R! _):P:=h
theorem maC(h:P:=by simp at hl;omega):P:=h
theorem mdB(h:P:=by simp[←FT.out];omega):P:=h
theorem naS(h:P:=by cases e:(aL q k).drains with|false=>rfl|true=>exact absurd (.inl e) hd):P:=h
theorem naH(h:P:=by rw[show lk ((P5,z.2):PS).1 id=lk P5 id from rfl,HL5.out];exact DI):P:=h
theorem mbm(h:P:=by rw[Nat.mul_comm];omega):P:=h
theorem mfL(h:P:=by rw[HJB.out];exact⟨_,_,hj5⟩):P:=h
theorem mcz(h:P:=by rw[←FT.out];omega):P:=h
theorem nbV(h:P:=by rw[HD.out,if_neg (by rintro⟨e,-⟩;cases e),if_pos rfl,hnt]):P:=h
theorem bcD(h:P:=by rw[hk];decide):P:=h
theorem mcA(h:P:=by simp[World.cell?,hh3]):P:=h
theorem mcs(h:P:=by rw[←hP];exact C4):P:=h
theorem mce(h:P:=by rw[←qJ];exact Dg):P:=h
theorem mcU(h:P:=by rw[←qJ];exact HF):P:=h
theorem mbt(h:P:=by rw[←qJ];exact HK):P:=h
theorem bal(h:P:=by simp[hA]):P:=h
theorem baV(h:P:=by cases h):P:=h
theorem mdv(h:P:=by rw[List.length_map];exact uL):P:=h
theorem ncV(h:P:=by rw[List.take_succ_eq_append_getElem uL,List.map_append];rfl):P:=h
theorem ncF(h:P:=by unfold jg;rw[if_neg (by rw[HBD.out,HQ.out,hq];simp),HQ.out]):P:=h
theorem ncB(h:P:=by rw[h2];exact hn 3 [] _ (by decide) (by decide) (aq.self _)):P:=h
theorem ncZ(h:P:=by rw[←hW];exact(aD.only hv (ay w b 4 (A! 0)) Yl).below R!.drew):P:=h
theorem ncO(h:P:=by have h9:(fP m.s n p).lost≤N:=(hf.a.s.pipe n p).ln;omega):P:=h
theorem mdC(h:P:=by rw[←e];exact hx):P:=h
theorem mbJ(h:P:=by rw[←e];exact hy):P:=h
theorem naG(h:P:=by show z.2.last≤(iT z.2 id).1.last;rw[h2];exact Int.le_refl _):P:=h
theorem bbz(h:P:=by simpa using h2):P:=h
theorem mdF(h:P:=by rw[HE.1,HE.2.2.2];exact hf):P:=h
theorem mcJ(h:P:=by rw[HN.out];exact tN):P:=h
theorem mb8(h:P:=by rw[←hw2];exact R!):P:=h
theorem mb2(h:P:=by rw[←hw3];exact R!):P:=h
theorem na7(h:P:=by rw[←hz0];exact aO.new _ _ _):P:=h
theorem bcA(h:P:=by subst hk;omega):P:=h
theorem md2(h:P:=by rw[HC0.out];simp):P:=h
theorem md4(h:P:=by rw[HK1.out];simp):P:=h
theorem nar(h:P:=by simp[results,Tryz.results161,go_sem,nS,dc,k0,k1,k2,k3]):P:=h
theorem nao(h:P:=by simp[results,Tryz.results248,go_sem,k0,k1,k2,k3,k4,k5]):P:=h
theorem ba0(h:P:=by rfl):P:=h
theorem men(h:P:=by rw[Ah.out];exact oQ _ _ _):P:=h
theorem mee(h:P:=by rw[←hW];exact aO.new _ _ _):P:=h
theorem mb5(h:P:=by have:=JK.out;omega):P:=h
theorem nbS(h:P:=by rw[hst];unfold cJ;rw[if_neg (by rw[hr,ha];simp)];rfl):P:=h
theorem nbi(h:P:=by unfold jg;rw[if_pos (.inr (by rw[HQ.out];exact hq))]):P:=h
theorem naI(h:P:=by rw[HZ.out];exact pK.start _ _ (λx hx=>hx.2 hx.1)):P:=h
theorem med(h:P:=by rw[List.length_take];omega):P:=h
theorem bcG(h:P:=by rw[hle];simp):P:=h
theorem meo(h:P:=by rw[hu];exact aq.app [n] [3]):P:=h
theorem naP(h:P:=by show some (Value.int .i64 m.ask.code)=_;rw[HAC.out]):P:=h
theorem nbq(h:P:=by simp[results,Tryz.results163,go_sem,iC,a0,a1,a2,a3]):P:=h
theorem na2(h:P:=by unfold maxLen at hcm;omega):P:=h
theorem nbm(h:P:=by have:=hp.pc;show(fP s c i).pieces.length≤_;omega):P:=h
theorem bbf(h:P:=by rw[hr.out]):P:=h
theorem nby(h:P:=by rw[←HM3.out];exact List.mem_map.2 ⟨y,hy,rfl⟩):P:=h
theorem mdZ(h:P:=by rw[E.out];exact kT.nil _ _):P:=h
theorem mac(h:P:=by rw[dV,if_pos rfl]):P:=h
theorem mdT(h:P:=by rw[←hX4,List.length_map]):P:=h
theorem nb3(h:P:=by show some (Value.int .i64 m.ask.id)=_;rw[HAI.out]):P:=h
theorem nb4(h:P:=by repeat(first|exact Below.refl _ _|apply ak|apply LQ)):P:=h
theorem mb6(h:P:=by rw[hbs,oD];rfl):P:=h
theorem mc4(h:P:=by rw[hkn];decide):P:=h
theorem naz(h:P:=by rw[←hL0];exact(h.blk.set 3 _ rfl).set 10 _ rfl):P:=h
theorem ncp(h:P:=by show P5.c=_;rw[HE5.2.1,HE4.2.2.1,HE3.2.2.1,tU.2.2.1]):P:=h
theorem nc6(h:P:=by simp[results,Tryz.results177,go_sem,d0,d1,d2,d3]):P:=h
theorem nbT(h:P:=by have:=hf.ch;show z.1.changes.length+1≤_;omega):P:=h
theorem na9(h:P:=by rw[HD4.out,if_pos rfl]):P:=h
theorem naE(h:P:=by rw[HM.out,if_neg (by simpa using h1),if_pos h2]):P:=h
theorem nc7(h:P:=by rw[hk,←e];exact List.mem_map.2 ⟨y,hy,rfl⟩):P:=h
theorem nau(h:P:=by show some (Value.int .i64 m.left)=_;rw[HL4.out]):P:=h
theorem naW(h:P:=by rw[Int.tdiv_eq_ediv_of_nonneg (by omega)];exact kZ):P:=h
theorem mbk(h:P:=by rw[hk];exact hsz):P:=h
theorem nbJ(h:P:=by rw[←jK (λ_ n=>Value.int .i64 n)];exact h5):P:=h
theorem mcD(h:P:=by simpa using h4):P:=h
theorem nbC(h:P:=by unfold fA;rw[HFS.out];dsimp only;rw[HFF.out];rfl):P:=h
theorem nay(h:P:=by have:=HN.out;have:=HZ.out;simp only at*;omega):P:=h
theorem ncb(h:P:=by rintro(e|e|e);exact h e;exact h2 e;exact h3 e):P:=h
theorem na3(h:P:=by rw[HLn.out];exact hlt):P:=h
theorem naB(h:P:=by rw[xT.out,if_pos rfl]):P:=h
theorem nbv(h:P:=by rw[←gI.out,if_neg e0];exact⟨G2,hp2,hs2⟩):P:=h
theorem nbR(h:P:=by simp[results,Tryz.results169,go_sem,ic,aK,gM]):P:=h
theorem nas(h:P:=by rw[HG.out,if_neg (by decide),if_pos rfl,hnm]):P:=h
theorem mdD(h:P:=by have:=hf.p.cfg.r2;omega):P:=h
theorem mes(h:P:=by rw[hu];exact aq.app _ _):P:=h
theorem mdg(h:P:=by rw[xT.out,if_neg e0]):P:=h
theorem naj(h:P:=by rw[Int.tmod_eq_emod_of_nonneg (by omega)];simp):P:=h
theorem nco(h:P:=by show P5.now=_;rw[HE5.1,HE4.2.1,HE3.2.1,tU.2.1]):P:=h
theorem nba(h:P:=by unfold fU;rw[if_neg (by rw[Yo];decide),hP];rfl):P:=h
theorem mdi(h:P:=by
 have hadd:((B? w.heap.size 0):Addr).add j=(B? w.heap.size j):=ban;rw[hadd,j!];simpa using hu):P:=h
theorem ncD(h:P:=by
 refine⟨h.1,?_⟩;rcases h.2 with h2|⟨g,cap,cur,rfl,hg,hh,r⟩
 .exact .inl h2
 .exact .inr ⟨g,cap,cur,rfl,hg,ho.heap hh (hn g rfl),r⟩):P:=h
theorem mdO(h:P:=by
 have:=(List.getElem?_eq_some_iff.1 hu).1;rw[E.length]at this;exact this):P:=h
theorem meh(h:P:=by
 apply bbd;intro x _;simp only[Function.comp];by_cases e:x.1=k
 .simp[e]
 .simp[e]):P:=h
theorem mbo(h:P:=by
 intro x hx;have:Value.int .i64 x.1∈ents.toList.map (·.key):=by rw[hkk];exact a!.2 ⟨x,hx,rfl⟩
 let⟨y,hy,hyk⟩:=a!.1 this;have:=h2 y hy;rw[hyk]at this;simp at this|-;exact this):P:=h
theorem naV(h:P:=by
 refine⟨h.1,?_⟩;rcases h.2 with h2|⟨g,cap,cur,hv,hg,hh,r⟩
 .exact .inl h2
 .exact .inr ⟨g,cap,cur,hv,hg,(hb.block g (i!.1 hh).1).trans hh,r⟩):P:=h
theorem nbg(h:P:=by
 rcases h.2 with⟨rfl,h0⟩|⟨g,cap,cur,rfl,_⟩
 .exact⟨L?,0,by rw[h0]⟩
 .exact⟨_,_,rfl⟩):P:=h
theorem d?(h:P:=by
 go_wp2
 go_ret;exact⟨rfl,rfl⟩):P:=h
theorem mda(h:P:=by
 exact aQ (ak ((hB2.setCell O? _).setCell O? _) _)):P:=h
theorem nbe(h:P:=by
 go_wp2
 refine V? (v:=pF (0,[],300)) mgn rfl ⟨bbf,?_⟩;exact(hB1.setCell O? _).setCell O? _):P:=h
theorem nam(h:P:=by
 go_in
 go_wp2_with fail;refine M! (qV _ _ hs) λw1 hb1=>?_;have k0:=aw hb1 (a:=B? w.heap.size 0) (v:=A! 0) χ;have k1:=aw hb1 (a:=B? w.heap.size 1) (v:=D? ⟨#[]⟩) χ;have f0:w1.frozen? (B? w.heap.size 0)=false:=((iP hb1).2 _ _ N!).trans Γ;have f1:w1.frozen? (B? w.heap.size 1)=false:=((iP hb1).2 _ _ N!).trans Γ;have lQ:w.heap.size<w1.heap.size:=bbH;have hB1:=seqB R! hb1;rw[H1.out];have hts:(bytesOf (bu s.data.toList).1).size=(bu s.data.toList).1.length:=aA _;go_wp2_with fail;refine M! (sj _ _ bcu) λw2 hb2=>?_;rw[fY];replace k0:=aw hb2 k0;replace k1:=aw hb2 k1;replace f0:=((iP hb2).2 _ _ lQ).trans f0;replace f1:=((iP hb2).2 _ _ lQ).trans f1;have hB2:=seqB hB1 hb2;rw[H3.out];generalize(bu s.data.toList).1=t at*
 go_wp2
 refine V? (v:=pF (0,[],302)) mgn rfl ⟨bbf,?_⟩;exact(hB2.setCell O? _).setCell O? _):P:=h
theorem bb8(h:P:=by
 go_wp2
 go_ret2;exact⟨by rw[HD.out];rfl,rfl⟩):P:=h
theorem nae(h:P:=by
 go_in
 go_wp2_with fail
 all_goals
  go_ret;refine⟨?_,rfl⟩;rw[HT.out];exact U! (λv=>Ending.returned (A! v)) B!):P:=h
theorem bcp(h:P:=by
 simp only[n!,Ξ,baE]at hu;rcases hu with rfl<;>rfl):P:=h
theorem mea(h:P:=by
 simp only[n!,Ξ,baE]at hu;rcases hu with rfl|rfl|rfl|rfl<;>rfl):P:=h
theorem ncM(h:P:=by
 unfold iV at hk;unfold rJ
 repeat' split at hk
 all_goals(first|cases hk|skip)
 all_goals simp_all):P:=h
theorem mcO(h:P:=by
 go_wp2
 go_end0;exact⟨rfl,hs,ay _ _ _ _⟩):P:=h
theorem mgi(h:P:=by
 go_roundw
 case rel=>exact⟨k+1,B!,W!,by rw[D4.out,HO.out];exact jT,yL⟩
 case measure=>simp[intOf];omega):P:=h
theorem nbo(h:P:=by
 refine R? ?_;intro K hK;go_wp2_with(go_at_call 279;refine M! (hn _) λw5 hb5=>?_);have g0:=af hb5 e2;have g1:=af hb5 e3;refine O! hK ⟨g0,g1⟩ ?_;refine tK ?_;have hh5:=bb hb5<|mF _ _ _;let⟨hc5,hf5⟩:=iP hb5;let⟨k0,k1⟩:=vB hh5 (A! 5)<|D? N;refine ai λK hK=>?_;go_wp2_with fail;refine O! hK ⟨(iY _ _ _ _ N!).trans<|(iY _ _ _ _ N!).trans g0,(iY _ _ _ _ p!).trans<|(iY _ _ _ _ p!).trans g1⟩ ?_;refine T? ?_;go_wp2;refine V? (v:=.tuple #[.agg #[A! 5,D? N],H? C?]) mbR rfl ⟨5,N,?_,?_,?_⟩
 .rw[HB.out,G? N!];rfl
 .rw[HB.out,G? N!];simp
 .exact(((seqB (aQ (ak R! _)) hb5).setCell (p:=B? (w.heap.size+1) 0) (ϗ _) _).setCell (p:=B? (w.heap.size+1) 1) (ϗ _) _)):P:=h
theorem nbM(h:P:=by
 apply(hset _ hS).mono;rintro e w3 ⟨rfl,hs3,ho3⟩;go_wp2;go_end0;exact⟨rfl,by rw[HL2.out];exact hs3,hO.trans ho3⟩):P:=h
theorem nad(h:P:=by
 go_in
 go_wp2_with(first|(go_at_call 302;apply(hval _).mono;rintro e w' ⟨rfl,rfl⟩)|(go_at_call 259;apply(hu _).mono;rintro e w' ⟨rfl,rfl⟩));exact nbM):P:=h
theorem nc8(h:P:=by
 let⟨k0,k1,k2,k3,k4,k5⟩:=eE hz2 (A! q.iO) (A! q.aH) (A! q.cW) (H? q.short) (D? q.dh) (A! q.num) _ rfl;have hBl:=uG (B:=w.heap.size+1) yN (ϗ _) (A! q.iO) (A! q.aH) (A! q.cW) (H? q.short) (D? q.dh)<|A! q.num;go_wp2;refine V? (v:=.tuple #[.agg #[A! q.iO,A! q.aH,A! q.cW,H? q.short,D? q.dh,A! q.num],A! 0]) (by simp[results,results258,go_sem,k0,k1,k2,k3,k4,k5]) rfl ⟨?_,hBl⟩;rw[<-Ah.out,<-HQ.out]
 try rfl):P:=h
theorem nbL(h:P:=by
 have fF:=λw=>lE l w;rw[hm]at fF;clear hm;have Ah:=A? jU;rw[Ah.out]at fF|-;go_in;go_wp2_with fail;refine M! (fF _) λw1 hb1=>?_;have hh1:w1.heap[w.heap.size]? =C! (.cells (aC l) 240 (0,0)):=bb hb1 men;have hz1:w1.heap[w.heap.size+1]? =C! (.cells xaf 240 (0,0)):=bb hb1 mdf;let⟨c0,c1,c2,c3,c4,c5⟩:=oB hh1;have hB1:=seqB (ak R! _) hb1;have lQ:=(i!.1 hz1).1;clear hb1 fF;go_wp2_with fail;have hS:dM (w1.alloc (.cells (aC l) 363)) w1.heap.size l:=c! _ _;have hzz:=bb (w':=w1.alloc (.cells (aC l) 363)) ((P! _ _).alloc O? _) hz1;have fG:K! w<|w1.alloc (.cells (aC l) 363):=ak hB1 _;rw[Ah.out]at hS hzz fG;generalize w1.alloc (.cells #[A! l.iO,A! l.aH,A! l.cW,H? l.short,D? l.dh,A! l.num] 363)=W2 at hS hzz fG|-;generalize w1.heap.size=p at hS lQ|-;clear hh1 hz1 c0 c1 c2 c3 c4 c5 hB1;go_loopw[28] (λi wr=>i=A! 0/\W2=wr) (λi _=>0)
 case atStart=>exact⟨rfl,rfl⟩
 case round=>
  obtain⟨rfl,rfl⟩:=hrel;have hend:=hS;have hz2:=hzz;have yN:=fG;clear hS hzz fG;let⟨q,hq⟩:=F? l;rw[hq]at hend;have HQ:=A? hq;clear hq;let⟨c0,c1,c2,c3,c4,c5⟩:=hend.cells;have z0:W2.cell? (B? (w.heap.size+1) 0)=N? 0:=ϧ;have z1:W2.cell? (B? (w.heap.size+1) 1)=N? 0:=ϧ;have z2:W2.cell? (B? (w.heap.size+1) 2)=N? 0:=ϧ;have z3:W2.cell? (B? (w.heap.size+1) 3)=C! (H? H!):=ϧ;have z4:W2.cell? (B? (w.heap.size+1) 4)=C! (D? ⟨#[]⟩):=ϧ;have z5:W2.cell? (B? (w.heap.size+1) 5)=N? 0:=ϧ;have f0:W2.frozen? (B? (w.heap.size+1) 0)=false:=ϰ;have f1:W2.frozen? (B? (w.heap.size+1) 1)=false:=ϰ;have f2:W2.frozen? (B? (w.heap.size+1) 2)=false:=ϰ;have f3:W2.frozen? (B? (w.heap.size+1) 3)=false:=ϰ;have f4:W2.frozen? (B? (w.heap.size+1) 4)=false:=ϰ;have f5:W2.frozen? (B? (w.heap.size+1) 5)=false:=ϰ;exact nc8):P:=h
theorem nai(h:P:=by
 go_wp2_with fail;refine d! (lT _ hS3) ?_;go_wp2_with fail;apply(hstep _ hS3).mono;rintro e w5 ⟨rfl,hS5,hO5⟩;go_wp2;go_roundw
 case rel=>exact⟨k+1,B!,W!,by rw[HST.out];exact hS5,hO3.trans hO5⟩
 case measure=>simp[intOf];omega):P:=h
theorem ncl(h:P:=by
 rw[hq]at hend;have HQ:=A? hq;let⟨c0,c1,c2,c3,c4,c5⟩:=hend.cells;have z0:wr.cell? (B? (w.heap.size+1) 0)=N? 0:=ϧ;have z1:wr.cell? (B? (w.heap.size+1) 1)=N? 0:=ϧ;have z2:wr.cell? (B? (w.heap.size+1) 2)=N? 0:=ϧ;have z3:wr.cell? (B? (w.heap.size+1) 3)=C! (H? H!):=ϧ;have z4:wr.cell? (B? (w.heap.size+1) 4)=C! (D? ⟨#[]⟩):=ϧ;have z5:wr.cell? (B? (w.heap.size+1) 5)=N? 0:=ϧ;have f0:wr.frozen? (B? (w.heap.size+1) 0)=false:=ϰ;have f1:wr.frozen? (B? (w.heap.size+1) 1)=false:=ϰ;have f2:wr.frozen? (B? (w.heap.size+1) 2)=false:=ϰ;have f3:wr.frozen? (B? (w.heap.size+1) 3)=false:=ϰ;have f4:wr.frozen? (B? (w.heap.size+1) 4)=false:=ϰ;have f5:wr.frozen? (B? (w.heap.size+1) 5)=false:=ϰ;exact nc8):P:=h
theorem nbE(h:P:=by
 go_wp2
 go_roundw
 case rel=>exact⟨k+1,B!,W!,by rw[HST.out];exact hS3,hO3⟩
 case measure=>simp[intOf];omega):P:=h
theorem nb7(h:P:=by
 have lT:=λw h=>yG p acc x.1 w h;rw[ha]at lT;go_wp2_with fail;refine M! (Ds _) λw3 hb3=>?_;have hS3:=hS1.below hb3;have hO3:=hO1.then hb3;have hh3:=bb hb3 hh6;have t0:w3.cell? (B? wr.heap.size 0)=N? x.1:=mcA;go_wp2_with fail;apply(lT _ hS3).mono;rintro e w4 ⟨rfl,rfl⟩;exact nbE):P:=h
theorem ncn(h:P:=by
 exact nbE):P:=h
theorem naT(h:P:=by
 go_wp2_with fail;refine M! (Ds _) λw3 hb3=>?_;have hS3:=hS1.below hb3;have hO3:=hO1.then hb3;exact ncn):P:=h
theorem nbF(h:P:=by
 go_wp2_with fail;refine M! (fF _) λw8 hb8=>?_;have hz8:=bb hb8 hz2;have hB8:=seqB yN hb8;let⟨d0,d1,d2,d3,d4,d5⟩:=(hend.below hb8).cells;have z0:w8.cell? (B? w.heap.size 0)=N? 0:=ϲ;have z1:w8.cell? (B? w.heap.size 1)=N? 0:=ϲ;have z2:w8.cell? (B? w.heap.size 2)=N? 0:=ϲ;have z3:w8.cell? (B? w.heap.size 3)=C! (H? H!):=ϲ;have z4:w8.cell? (B? w.heap.size 4)=C! (D? ⟨#[]⟩):=ϲ;have z5:w8.cell? (B? w.heap.size 5)=N? 0:=ϲ;have f0:w8.frozen? (B? w.heap.size 0)=false:=ϡ;have f1:w8.frozen? (B? w.heap.size 1)=false:=ϡ;have f2:w8.frozen? (B? w.heap.size 2)=false:=ϡ;have f3:w8.frozen? (B? w.heap.size 3)=false:=ϡ;have f4:w8.frozen? (B? w.heap.size 4)=false:=ϡ;have f5:w8.frozen? (B? w.heap.size 5)=false:=ϡ;let⟨k0,k1,k2,k3,k4,k5⟩:=eE hz8 (A! q.iO) (A! q.aH) (A! q.cW) (H? q.short) (D? q.dh) (A! q.num) _ rfl;have hBl:=uG (B:=w.heap.size) hB8 O? (A! q.iO) (A! q.aH) (A! q.cW) (H? q.short) (D? q.dh)<|A! q.num;go_wp2;refine V? (v:=.tuple #[.agg #[A! q.iO,A! q.aH,A! q.cW,H? q.short,D? q.dh,A! q.num],A! 0]) nao rfl ⟨?_,hBl⟩;rw[HT.out,Ah.out]):P:=h
theorem naQ(h:P:=by
 go_wp2
 refine V? (v:=.tuple #[.agg xaf,A! 1400]) nao rfl ⟨?_,hBl⟩;rw[HT.out,qu]):P:=h
theorem ncQ(h:P:=by
 go_wp2_with fail;refine M! (fF _) λw8 hb8=>?_;have hz8:=bb hb8 hz2;have hB8:=seqB yN hb8;have z0:w8.cell? (B? w.heap.size 0)=N? 0:=ϲ;have z1:w8.cell? (B? w.heap.size 1)=N? 0:=ϲ;have z2:w8.cell? (B? w.heap.size 2)=N? 0:=ϲ;have z3:w8.cell? (B? w.heap.size 3)=C! (H? H!):=ϲ;have z4:w8.cell? (B? w.heap.size 4)=C! (D? ⟨#[]⟩):=ϲ;have z5:w8.cell? (B? w.heap.size 5)=N? 0:=ϲ;have f0:w8.frozen? (B? w.heap.size 0)=false:=ϡ;have f1:w8.frozen? (B? w.heap.size 1)=false:=ϡ;have f2:w8.frozen? (B? w.heap.size 2)=false:=ϡ;have f3:w8.frozen? (B? w.heap.size 3)=false:=ϡ;have f4:w8.frozen? (B? w.heap.size 4)=false:=ϡ;have f5:w8.frozen? (B? w.heap.size 5)=false:=ϡ;let⟨k0,k1,k2,k3,k4,k5⟩:=eE hz8 (A! 0) (A! 0) (A! 0) (H? H!) (D? ⟨#[]⟩) (A! 0) _ rfl;have hBl:=uG (B:=w.heap.size) hB8 O? (A! 0) (A! 0) (A! 0) (H? H!) (D? ⟨#[]⟩)<|A! 0;exact naQ):P:=h
theorem ncm(h:P:=by
 exact naQ):P:=h
theorem nci(h:P:=by
 let⟨k0,k1,k2,k3,k4,k5⟩:=eE hz3 (A! 0) (A! 0) (A! 0) (H? H!) (D? ⟨#[]⟩) (A! 0) _ rfl;have hBl:=uG (B:=w.heap.size) hB3 O? (A! 0) (A! 0) (A! 0) (H? H!) (D? ⟨#[]⟩)<|A! 0;exact ncm):P:=h
theorem nav(h:P:=by
 clear hK K;refine T? ?_;have hb34:=seqB hb3 hb4;have hh4:=bb hb34<|show(World.drew _).heap[_]? =_ from hh6;have u0:w4.cell? (B? wr.heap.size 0)=N? x.1:=bau;have u1:w4.cell? (B? wr.heap.size 1)=C! (D? x.2):=bau;have hO8:=((ny.below<|(P! _ _).alloc O? (.cells #[A! x.1,D? x.2] 203)).below (P! _ _).drew).below hb34;have hO9:=((Az.below<|(P! _ _).alloc O? (.cells #[A! x.1,D? x.2] 203)).below (P! _ _).drew).below hb34;have hB4:=seqB (aQ<|ak hbl _) hb34;clear hb3 hb4 hb34 hh4;have hl9:=hO9.lt;go_wp2_with(at_builtin;apply jR rfl _ _ rfl W2 _ _ x.1 x.2 1 hO8 rfl _ rfl N! B! hB4;intro v' w5 jT yL F6 NJ);have hO9':=hO9.only F6 λb hb e=>hap b e hb;go_roundw
 case rel=>exact⟨k+1,B!,W!,by rw[HB8.out];exact jT,by rw[HB9.out];exact hO9',hap.grow NJ hl9,yL,HF⟩
 case measure=>simp[intOf];omega):P:=h
theorem mdx(h:P:=by
 go_ret3;exact⟨Q!,by rw[HT.out];rfl,by rw[HT.out];exact bq.nil _ _ _,yN⟩):P:=h
theorem nbG(h:P:=by
 refine R? ?_;intro K hK;go_wp2_with(go_at_call 281;refine M! (Ds _) λw3 hb3=>?_);refine O! hK ⟨af hb3 s0,af hb3 s1,af hb3 s3⟩ ?_;clear hK K;refine R? ?_;intro K hK;have hv3:=aD.below (aD.below hv1 (P! _ _).drew) hb3;go_wp2_with(go_at_call 272;refine M! (hfind _ hv3) λw4 hb4=>?_);refine O! hK ⟨af hb4<|af hb3 s0,af hb4<|af hb3 s1,af hb4<|af hb3 s3⟩ ?_;clear hK K;refine T? ?_;have hb34:=seqB hb3 hb4;have hh4:=bb hb34<|show(World.drew _).heap[_]? =_ from hh6;have u0:w4.cell? (B? wr.heap.size 0)=N? x.1:=bau;have u1:w4.cell? (B? wr.heap.size 1)=C! (D? x.2):=bau;have hO8:=((ny.below<|(P! _ _).alloc O? (.cells #[A! x.1,D? x.2] 203)).below (P! _ _).drew).below hb34;have hO9:=((Az.below<|(P! _ _).alloc O? (.cells #[A! x.1,D? x.2] 203)).below (P! _ _).drew).below hb34;have hB4:=seqB (aQ<|ak hbl _) hb34;clear hb3 hb4 hb34 hh4;have hS4:=(hS.below hB4);have hl8:=hO8.lt;have hl9:=hO9.lt;go_wp2_with fail;apply(agu _ hS4).mono;rintro e w5 ⟨bk,bd,rfl,hbe,hb5⟩;cases VI:eT own x with
 |none=>
  have HB9':E!<|bU own os (k+1)=bU own os k:=A? (by rw[HB9.out,VI];simp);have hO8':=(hO8.below hb5).below<|(P! _ _).alloc O? (.cells #[A! bk,D? bd] 203);have hO9':=(hO9.below hb5).below<|(P! _ _).alloc O? (.cells #[A! bk,D? bd] 203);have hB5:K! W2<|w5.alloc (.cells #[A! bk,D? bd] 203):=ak (seqB hB4 hb5) _;clear hbe hb5 hO8 hO9 hB4;go_wp2;go_roundw
  case rel=>exact⟨k+1,B!,W!,by rw[HB8.out];exact hO8',by rw[HB9'.out];exact hO9',hap,hB5,HF⟩
  case measure=>simp[intOf];omega
 |some bx=>
  have hbx:=hbe bx VI;have HB9':E!<|bU own os (k+1)=bU own os k++[(bk,bd)]:=A? (by rw[HB9.out,VI,hbx];rfl);have hO8':=(hO8.below hb5).below<|(P! _ _).alloc O? (.cells #[A! bk,D? bd] 203);have hO9':=(hO9.below hb5).below<|(P! _ _).alloc O? (.cells #[A! bk,D? bd] 203);have hB5:K! W2<|w5.alloc (.cells #[A! bk,D? bd] 203):=ak (seqB hB4 hb5) _;have hl8':=hO8'.lt;clear hbe hb5 hO8 hO9 hB4 hbx;go_wp2_with(at_builtin;apply jR rfl _ _ rfl W2 _ _ bk bd 1 hO9' rfl _ rfl N! B! hB5;intro v' w6 iX Lc aeT aeU);have Y6:=hO8'.only aeT λb hb e=>hap b hb e;go_roundw
  case rel=>exact⟨k+1,B!,W!,by rw[HB8.out];exact Y6,by rw[HB9'.out];exact iX,(hap.symm.grow aeU hl8').symm,Lc,HF⟩
  case measure=>simp[intOf];omega):P:=h
theorem ncK(h:P:=by
 refine R? ?_;intro K hK;go_wp2_with(go_at_call 281;refine M! (Ds _) λw3 hb3=>?_);refine O! hK ⟨af hb3 s0,af hb3 s1,af hb3 s3⟩ ?_;clear hK K;refine R? ?_;intro K hK;have hv3:=aD.below (aD.below hv1 (P! _ _).drew) hb3;go_wp2_with(go_at_call 272;refine M! (hfind _ hv3) λw4 hb4=>?_);refine O! hK ⟨af hb4<|af hb3 s0,af hb4<|af hb3 s1,af hb4<|af hb3 s3⟩ ?_;exact nav):P:=h
theorem nah(h:P:=by
 refine R? ?_;intro K hK;go_wp2_with(go_at_call 281;refine M! (Ds _) λw3 hb3=>?_);refine O! hK ⟨af hb3 s0,af hb3 s1,af hb3 s3⟩ ?_;clear hK K;refine R? ?_;intro K hK;go_wp2_with fail;refine O! hK ⟨af hb3 s0,af hb3 s1,af hb3 s3⟩ ?_;obtain⟨w4,rfl⟩:∃w4:D!,w4=w3:=⟨_,rfl⟩;have hb4:=P! w4.heap.size w4;exact nav):P:=h
theorem nce(h:P:=by
 refine ah<|hK _ _ s1 ?_;refine tK ?_;apply aj;go_wp2;go_ret2;exact⟨by rw[HT.out];rfl,hb1.trans (Ac.mono hb1.size)⟩):P:=h
theorem nbf(h:P:=by
 go_in
 go_wp2_with fail;refine M! Dt λw1 hb1=>?_;go_wp2;go_ret2;exact⟨ba3,hb1⟩):P:=h
theorem bak(h:P:=by
 go_wp2
 go_ret;exact⟨by rw[HC.out];rfl,rfl⟩):P:=h
theorem ncC(h:P:=by
 by_cases h:0<=c
 .have HC:E!<|dw c=K? (c<=255):=A? (by unfold dw;simp[h]);exact bak
 .have HC:E!<|dw c=false:=A? (by unfold dw;simp[h]);exact bak):P:=h
theorem nbs(h:P:=by
 go_in
 go_wp2_with fail;refine M! (hput _ pre) λw1 hb1=>?_;replace d0:=af hb1 d0;replace d1:=af hb1 d1;replace d2:=af hb1 d2;replace d3:=af hb1 d3;have fX:=seqB hbx hb1;go_wp2_with fail;refine d! (hcf _) ?_;go_wp2_with(go_at_call 212;first|(apply(ho1 _).mono;rintro e1 w3 ⟨rfl,rfl⟩)|(refine d! (ho2 _) ?_));go_ret2;exact⟨rfl,fX⟩):P:=h
theorem bca(h:P:=by
 have hbx:K! w<|w.alloc (.cells #[A! code,A! id,v,D? data] 220):=R!;have pre:=h.below hbx;have d0:=j! w #[A! code,A! id,v,D? data] 220 0;have d1:=j! w #[A! code,A! id,v,D? data] 220 1;have d2:=j! w #[A! code,A! id,v,D? data] 220 2;have d3:=j! w #[A! code,A! id,v,D? data] 220 3;exact nbs):P:=h
theorem ncN(h:P:=by
 exact nbs):P:=h
theorem ncX(h:P:=by
 clear h;go_in;go_wp2_with fail;refine M! (hput _ pre) λw1 hb1=>?_;replace d0:=af hb1 d0;replace d1:=af hb1 d1;replace d2:=af hb1 d2;replace d3:=af hb1 d3;have fX:=seqB hbx hb1;clear hput pre hb1 hbx;go_wp2_with fail;refine d! (hcf _) ?_;clear hcf;go_wp2_with(go_at_call 212;first|(apply(ho1 _).mono;rintro e1 w3 ⟨rfl,rfl⟩)|(refine d! (ho2 _) ?_));go_ret2;refine⟨?_,ak fX _⟩;simp only[HF.symm];rfl):P:=h
theorem nc2(h:P:=by
 obtain rfl:op=none:=by cases op with|none=>rfl|some x=>cases hb
 go_wp2_with(go_at_call 210;apply nA.mono;rintro e w3 ⟨kp,v,o3,rfl,hk',uH,hn4,Qy,hO4,acK⟩;obtain⟨va,vc,rfl,wJ,xI⟩:=aD.form uH.at);have MU:=(hOr.trans hO3).trans hO4;have Rw:=zN hps (hpk.only hO3 hpb) rfl Qy;have Lm:=(hpk.only hO3 hpb).only hO4 hpb;have Ob:=E7 ((hos.only hO3 hpb).only hO4 hpb) Qx<|Qy.imp id λh=>h.base (hOr.trans hO3).size;have hB3:∀ob:Obj,K! w3<|w3.alloc ob:=λob=>ak U? ob;go_roundw
 case rel=>
  refine⟨k+1,l,o3,hkn,Γ,Lm.only (Only.aP<|hB3 _) hpb,A? ?_,?_,?_,Rw,MU.alloc _⟩
  .rw[D4.out,JK.out,HX.out,Gh.out];simp
  .rw[D4.out,JK.out,HX.out];exact hn4.below<|hB3 _
  .rw[D4.out,JK.out,HX.out];exact Ob.only (Only.aP<|hB3 _) hpb
 case measure=>simp[intOf];omega):P:=h
theorem nbu(h:P:=by
 rw[hX]at nA;have HX:=A? hX;obtain⟨S3,op⟩:=X;dsimp only at nA;let⟨b,hb⟩:=F? op.isSome;rw[hb]at nA;cases b with
 |false=>
  exact nc2
 |true=>
  have e:=HX.out;simp[nk]at e;obtain⟨-,rfl⟩:=e;cases hb):P:=h
theorem nc0(h:P:=by
 go_in
 go_wp2_with fail;apply Uw.mono;rintro e w1 ⟨v,l,o',rfl,hrest⟩;have hf:=HF _ _ ⟨v,l,o',rfl,hrest⟩;go_wp2;go_ret2;exact hf):P:=h
theorem ma6(h:P:=by
 go_wp2
 go_ret2;exact⟨rfl,rfl⟩):P:=h
theorem mdl(h:P:=by
 go_in
 go_wp2_with fail
 all_goals
  go_ret;refine⟨?_,rfl⟩
  first|rfl|(rename_i h;rw[<-H _ h.symm];rfl)|(rename_i h h';rw[<-H _ h'.symm];rfl)|(rename_i h h';rw[<-H _ h.symm];rfl)):P:=h
theorem bbB(h:P:=by
 rw[F! B!,G? rfl]):P:=h
theorem ncR(h:P:=by
 generalize eH m c i=E at hop q|-;unfold ptr at hop|-;go_in;go_wp2_with fail;refine d! hop ?_;go_wp2;go_ret;exact⟨rfl,_,h0,Step.refl _ _ _⟩):P:=h
theorem bas(h:P:=by
 go_ret;exact⟨rfl,HF⟩):P:=h
theorem bbn(h:P:=by
 exact⟨Z! this.1 ho.size,(hs.old _ this.1).trans this.2⟩):P:=h
theorem ncY(h:P:=by
 rcases baX hu hv with e|e<;>simp at e<;>rcases h.n01 with rfl|rfl<;>omega):P:=h
theorem baN(h:P:=by
 rw[V!];omega):P:=h
theorem mcP(h:P:=by
 rw[X!,baW];omega):P:=h
theorem nbD(h:P:=by
 have HD:=A?<|W? h4;go_wp2;go_ret;exact⟨by rw[HD.out];first|rfl|simp,rfl⟩):P:=h
theorem nbY(h:P:=by
 rcases baX h1 h2 with h|h
 .have:=(jI t _ _).1 h;simp at this;omega
 .have:=(jI t _ _).1 h;simp at this;omega):P:=h
theorem mbG(h:P:=by
 rw[F! B!,F! B!,G? rfl]):P:=h
theorem nbp(h:P:=by
 have:=(bp.new<|w'.alloc (.map #[] 0)).below<|ak U? o;rw[hz1]at this;exact this):P:=h
theorem bbG(h:P:=by
 go_wp2
 go_ret;exact kO.same H0):P:=h
theorem nax(h:P:=by
 have xu:=hown.app hq7 ho7 hw7 hbr.size;have hb7:=hbr.trans<|ho7.below hbr.size λi hi=>(hown.2 i hi).1;go_roundw
 case rel=>exact⟨j+1,B!,W!,by rw[HT.out];exact xu,hb7⟩
 case measure=>simp[intOf];omega):P:=h
theorem nbk(h:P:=by
 go_in
 go_wp2_with fail;go_quiet(first|(go_at_call 85;refine bbs<|hr _));go_wp2;go_ret2;exact⟨ba3,by first|exact P! _ _|exact ak U? _|exact(aQ R!)|exact(LQ R!)⟩):P:=h
theorem nbK(h:P:=by
 exact(((hbl.setCell O? _).setCell O? _).setCell O? _).setCell O? _):P:=h
theorem ncU(h:P:=by
 have hd3:K? ((2048:Int)<(r.length:Int))=true:=b! B!;go_wp2;exact V? (v:=nS (eZ,801)) mge rfl ⟨by rw[HM2.out],R!⟩):P:=h
theorem nbr(h:P:=by
 go_wp2
 exact V? (v:=nS (eZ,800)) mge rfl ⟨by rw[HM2.out],R!⟩):P:=h
theorem nbc(h:P:=by
 go_wp2
 exact V? (v:=nS (eZ,800)) mge rfl ⟨ϯ,R!⟩):P:=h
theorem nc4(h:P:=by
 have g2':wr.frozen? (B? (w.heap.size+1) 2)=false:=by simp[World.frozen?,hb]
 have hn:=ba4 wr (w.heap.size+1) 2 _ _ (A! (x1:Nat)) hb;have ha':=(ay wr (w.heap.size+1) 2<|A! (x1:Nat)).heap ha B!;have hb2:K! w (wr.setCell (B? (w.heap.size+1) 2)<|A! (x1:Nat)).drew:=(hbl.setCell (ϗ _) _).drew;go_wp2;go_region;go_wp2;go_roundw
 case rel=>exact⟨1+1,_,B!,B!,W!,hn,ha',hb2,B!⟩
 case measure=>simp[intOf]):P:=h
theorem naJ(h:P:=by
 go_wp2
 exact V? (v:=.tuple #[.agg xaa,A! 2003]) mdU rfl ⟨rfl,HQ _⟩):P:=h
theorem mdK(h:P:=by
 go_wp2
 go_region;go_wp2;go_region;go_wp2_with fail;apply(CK _).mono;rintro e w' ⟨rfl,rfl⟩;go_wp2;exact V? (v:=ic (gM,600)) mei rfl ⟨ϯ,ϕ⟩):P:=h
theorem mdM(h:P:=by
 simp only[show(0:UInt8).toNat=0 from rfl,Nat.mul_zero,bbc];rw[<-this];omega):P:=h
theorem mcV(h:P:=by
 clear hm;go_wp2;refine yS (λw'=>w'.cell? (B? w.heap.size j)=C! (.int .u32 (old:Int))) 14 [(0,1),(1,1),(2,1),(3,1),(4,1),(5,1),(6,1),(7,1),(8,1),(9,1),(10,1),(11,1),(12,1),(13,1),(14,0)] z ?_;refine tL ?_;refine iz λK hK=>?_;go_wp2_with fail;rw[pU];refine ah<|hK _ _ ?_;clear hK K;go_wp2;go_roundw
 case rel=>exact⟨k+1,W!,B!,uj (f:=λq=>(fT (x.data.toList.take k) q:Int)) (f':=λq=>(fT (x.data.toList.take<|k+1) q:Int)) HC hj16 (by show((fT (x.data.toList.take<|k+1) j:Nat):Int)=_;rw[HW.out];first|done|simp) (λq _ hq=>by show((fT (x.data.toList.take<|k+1) q:Nat):Int)=_;rw[Sg q hq]),λq hq=>(bcn _ _ _ _).trans<|HF q hq,(hO.set (.inl rfl) _).drew⟩
 case measure=>simp[intOf];omega):P:=h
theorem mb1(h:P:=by
 rcases c0 with c0|c0
 .exact c0
 .cases c0):P:=h
theorem nbl(h:P:=by
 have:=h.pf;rw[hm]at this;cases e:x.pf with
 |none=>rw[e]at this;exact this.elim
 |some pb=>exact⟨pb,rfl⟩):P:=h
theorem naw(h:P:=by
 go_in
 go_wp2_with fail;apply De.mono;rintro e w1 ⟨rfl,rfl⟩;go_wp2;go_ret;exact⟨rfl,_,⟨x,K1⟩,K2⟩):P:=h
theorem nbb(h:P:=by
 simp only[k!,bbv,nc5]at h3;show au (iT z.2 id).1.up k=C?;rw[(vL (s:=z.2) id k).1,hs k h3.2];simp[h3.1]):P:=h
theorem nak(h:P:=by
 unfold yx;apply Z? (ϝ _ _);have:=Mb l;rw[List.length_dropLast,mb0];omega):P:=h
theorem mae(h:P:=by
 rw[hW]at HM0;have HM:=A? HM0;obtain⟨GW0,-,-,ho0⟩:=HM0;go_wp2;go_loopw[8,44] (λu i wr=>∃j:Nat,j<=nP/\i=A! j/\K! W wr/\E! (rP W wr u<|cV PS j)) (λu i _=>nP-(intOf i).toNat)
 case atStart=>exact⟨0,S! _,rfl,P! _ _,A? ⟨jd.nil _ _,λk hk=>o!⟩⟩
 case round=>
  obtain⟨j,hj,rfl,hbl,HF⟩:=hrel;by_cases hlt:j<nP
  .have hj1:j<(PS.map bytesOf).length:=by rw[g!,Xe.out];exact hlt
   have hj2:j<PS.length:=by rw[Xe.out];exact hlt
   have hjn:j+1<=nP:=hlt;obtain⟨g,rfl,hcell⟩:=zW ho0 j hj1;rw[bb2]at hcell;have d0:=aw hbl hcell;have hpl:=HGP _<|l! hj2;have sy:=oo PS j hj2;have hfl:=pO PS j;have mL:=A?<|Cd (bytesOf PS[j]) wr bbe;have e2:(bytesOf PS[j]).data.toList=PS[j]:=rfl;rw[e2]at mL;obtain⟨P,hP⟩:∃P,PS[j]=P:=⟨_,rfl⟩;rw[hP]at d0 sy mL;obtain⟨⟨pr,d,en⟩,hU⟩:∃U,cK P=U:=⟨_,rfl⟩;rw[hU]at sy mL;unfold pF at mL;simp only at sy mL;obtain⟨fs,hfs⟩:∃fs,cV PS j=fs:=⟨_,rfl⟩;rw[hfs]at sy hfl HF;have rC:=A? sy;have SE:=A? hfl;go_wp2_with fail;apply mL.mono;rintro e w5 ⟨rfl,hb5⟩;have hB5:=hbl.trans<|hb5.mono hbl.size;have hB6:K! W<|w5.alloc (.cells #[A! pr,.string<|bytesOf d] 190):=ak hB5 _
   have hF5:rP W (w5.alloc (.cells #[A! pr,.string<|bytesOf d] 190)) u8 fs:=by
    obtain⟨q1,q2⟩:=HF.out;refine⟨q1.heap λk hk=>?_,λk hk=>⟨(q2 k hk).1,?_⟩⟩
    .have hk2:=(q2 k hk).2;exact(baf w5 _ k<|Z! hk2 hb5.size).trans<|hb5.block k hk2
    .have:=(q2 k hk).2;have:=hb5.size;simp;omega
   by_cases he:en=0
   .subst he;go_wp2_with(at_builtin;refine dz sQ rfl _ _ rfl u8 fs (pr,d) 1 hF5.1 (λk hk=>(hF5.2 k hk).2) rfl _ rfl N! (by have:=SE.out;show(fs.length+1)*24<=_;omega) I! ?_;intro v' w6 hq6 ho6 hv6);have hB7:=hB6.trans<|ho6.below hB6.size λk hk=>(hF5.2 k hk).1
    have HF6:E! (rP W w6 v' (cV PS (j+1))):=A? (by
     rw[rC.out]
     first|rw[G? rfl]|rw[G? trivial]|skip
     refine⟨hq6,λk hk=>?_⟩;rcases hv6 k hk with e|e
     .exact⟨(hF5.2 k e).1,Z! (hF5.2 k e).2 ho6.size⟩
     .exact⟨Z? hB6.size e.1,e.2⟩)
    go_wp2
    go_roundw
    case rel=>exact⟨j+1,hjn,W!,hB7,HF6⟩
    case measure=>simp[intOf];omega
   .have hq:=Q?.2 he
    have HF6:E! (rP W (w5.alloc (.cells #[A! pr,.string (bytesOf d)] 190)) u8 (cV PS (j+1))):=A? (by
     rw[rC.out,F! he,baj];exact hF5)
    go_wp2
    go_roundw
    case rel=>exact⟨j+1,hjn,W!,hB6,HF6⟩
    case measure=>simp[intOf];omega
  .obtain rfl:j=nP:=B!;obtain⟨GW,g1,g2,-⟩:=HM.out;obtain⟨j1,j2⟩:=g1.below hbl;have HJ2:=A?<|g2.trans j2
   have uk:E! (oy sQ (grow GW W.heap.size free) free wr u8 FL.2):=A? (by
    rw[HF2.out,Xe.out];exact⟨HF.out.1,λk hk=>⟨(HF.out.2 k hk).2,fE _ free (HF.out.2 k hk).1⟩⟩)
   go_wp2
   go_ret;exact⟨_,_,rfl,uk,j1,HJ2⟩):P:=h
theorem nap(h:P:=by
 have HB2:=A?<|Et.trans<|r8.mono Et.size;clear hneg Cp hb2 r8;go_wp2;go_ret;exact⟨_,rfl,HB2.size,N!,ak HB2 _,HX⟩):P:=h
theorem nbI(h:P:=by
 unfold dK ko vg;simp only[baP,bbq,V!,hv,η,t!,q?];rw[F! B!,F! h,hR]):P:=h
theorem nbx(h:P:=by
 have d5:K? ((2048:Int)<(N:Int))=true:=b! B!;go_wp2;exact V? (v:=.tuple #[.agg xae,A! 901]) naC rfl (nG.zero HM ((((HB.setCell O? _).setCell O? _).setCell O? _).setCell O? _))):P:=h
theorem ncd(h:P:=by
 rw[G? rfl]at HM;go_wp2;exact V? (v:=.tuple #[.agg xae,A! 900]) naC rfl (nG.zero HM ((((HB.setCell O? _).setCell O? _).setCell O? _).setCell O? _))):P:=h
theorem naO(h:P:=by
 have HM:E! (dK (c0::c1::c2::c3::r)=(sK,900)):=A? (by
  unfold dK ko vg;simp only[baP,bbq,V!,hv,η,t!,q?];rw[F! B!,G? h])
 let⟨hz,g0,g1,g2,g3,b0,b1,b2,b3,pU,hN⟩:=CI c0 c1 c2 c3 r;generalize cB (c0::c1::c2::c3::r)=N at pU hN h;generalize dK (c0::c1::c2::c3::r)=BG at HM|-;have HR:=A? λw=>qy (c0.toNat:Int) (c1.toNat:Int) w;have HY:=A? λw=>sZ (c0.toNat:Int) (c1.toNat:Int) w;rw[hv]at HR;have hd:K? ((r.length:Int)+4<4)=false:=W? B!;generalize eV (c0.toNat:Int) (c1.toNat:Int)=Y at h HY;have H:=A? h;cases Y
 all_goals
  go_wp2
  go_region;go_wp2;go_region;go_wp2_with fail;let⟨W,hW⟩:=F?<|((w.alloc (.cells xae 157)).alloc (.cells #[A! (c0.toNat:Int),A! (c1.toNat:Int),A! 0] 280)).drew.drew;have hB:K! w W:=maO;have h0:aO W w.heap.size 157 xae:=bay;have h1:aO W (w.heap.size+1) 280 #[A! (c0.toNat:Int),A! (c1.toNat:Int),A! 0]:=bbE;rw[hW];refine M! (HR _) λw1 hb=>?_;replace h0:=h0.below hb;replace h1:=h1.below hb;replace hB:=hB.trans<|hb.mono hB.size;have e0:=h1.k 0;have e1:=h1.k 1;go_wp2_with fail;refine M! (HY _) λw2 hb=>?_;replace h0:=h0.below hb;replace h1:=h1.below hb;replace hB:=hB.trans<|hb.mono hB.size;have a0:=h0.k 0;have a1:=h0.k 1;have a2:=h0.k 2;have a3:=h0.k 3;have z0:=h0.frozen 0;have z1:=h0.frozen 1;have z2:=h0.frozen 2;have z3:=h0.frozen 3;go_wp2_with fail
  all_goals first
   |(exfalso;have:=H.out;simp at this;omega)
   |exact V? (v:=.tuple #[.agg xag,.int .i64 900]) naC rfl (nG.zero HM ((((hB.setCell O? _).setCell O? _).setCell O? _).setCell O? _))):P:=h
theorem nb9(h:P:=by
 go_wp2_with(go_at_call 201;refine M! (HR _) λw3 hb=>?_;replace h0:=h0.below hb;replace h1:=h1.below hb;replace hB:=hB.trans<|hb.mono hB.size;have e3:=h0.k 2;have e2:=h1.k 2;have e0:=h1.k 0;have e1:=h1.k 1;have hlt:w.heap.size+1<w3.heap.size:=h1.lt);go_ret2;exact⟨ba3,meb⟩):P:=h
theorem mc8(h:P:=by
 clear HA0 rK HST HS0 HS1;go_wp2_with fail;apply Bq.out.mono;rintro e W9 ⟨rfl,G9,h9,hs9⟩;have H9:=A? h9;have HS9:=A? hs9;clear h9 hs9 u0 u1 u2 u3 v0 v1 v2 v3;go_wp2;go_end0;exact⟨rfl,G9,by rw[HE.out];exact H9.out,HS9.out⟩):P:=h
theorem nbd(h:P:=by
 exact V? (v:=.tuple #[.agg #[H? f.b,H? f.e,A! f.seq,D? f.d],A! 0]) nc6 rfl (kO.result ⟨_,HX5⟩ Jd ht SX O? _ _ _ _)):P:=h
theorem nbW(h:P:=by
 obtain⟨hx3,e4⟩:=HX.LL hkh e2 e1;have aa1:=HST.trans e4;have hR3:=HR2.step e4 (by rw[HGR.out];exact aJ ht);have hF3:=HF2.step e4 (by rw[HGF.out];exact aJ ht);have aa2:=(e4.old _ SC.1).trans HGR;have aa3:=(e4.old _ SC.2).trans HGF;have c5:=hx3.cells.2.2.2.2.2.1;have hlo:=hx3.vO n;clear hrow;obtain⟨hn1,hn2⟩:=Yl n;obtain⟨N,hN⟩:=F?<|(bt M.opn n).getD 0;rw[hN]at hlo hn1 hn2 hT;have HX3:=A? hx3;have aa4:=A? aa1;have HR3:=A? hR3;have HF3:=A? hF3;have Mf:=A? aa2;have SV:=A? aa3;have HTT:=A? hT;have HFF:=A? hff;clear hv hcell aaa hbne hkh hwn Db hq3 e1 e2 e4 hx3 aa1 hR3 hF3 aa2 aa3 hT hN hff HT;by_cases hz:N-1=0
 .have HM4:E!<|(N-1==0)=true:=A? (by simp[hz]);have hzb:=HM4.out;have HZ:=A? hz;clear hz
  go_wp2_with(first
   |(refine eD rfl _ _ _ rfl underlying91 underlying3 n (.int .i64 (N-1)) HX3.mo rfl rfl rfl λw4 h4 ho4 hz4=>?_
     obtain⟨G4,hx4,hs4⟩:=HX3.opens (o:=bI M.opn n<|N-1) ho4 (by rw[<-jK (λ_ n=>Value.int .i64 n)];exact h4);have c5:=hx4.cells.2.2.2.2.2.1;have hl4:=hx4.vO n;simp only[iQ,t!,ba5]at hl4;have HX4:=A? hx4;have HS4:=A? hs4;clear h4 ho4 hz4 hx4 hs4)
   |(refine fW rfl _ _ rfl underlying91 underlying3 n HX4.mo rfl rfl λw5 h5 ho5 hz5=>?_
     rw[fZ]at h5;obtain⟨G5,hx5,hs5⟩:=HX4.opens (o:=dB (bI M.opn n<|N-1) n) ho5 h5;have hR4:=HR3.step HS4 (by rw[Mf.out];exact aJ ht);have hF4:=HF3.step HS4 (by rw[SV.out];exact aJ ht);have SW:=(HS4.old _ HR3.lt).trans Mf;have aa5:=(HS4.old _ HF3.lt).trans SV;have hR5:=hR4.step hs5 (by rw[SW];exact aJ ht);have hF5:=hF4.step hs5 (by rw[aa5];exact aJ ht);have SX:=A?<|(hs5.old _ hR4.lt).trans SW;have Jd:=A?<|(aa4.trans HS4).trans hs5;have y0:=hF5.cell 0;have y1:=hF5.cell 1;have y2:=hF5.cell 2;have y3:=hF5.cell 3;have r0:=hR5.cell 0;have r1:=hR5.cell 1;have r2:=hR5.cell 2;have r3:=hR5.cell 3;have z0:=hR5.frozen 0;have z1:=hR5.frozen 1;have z2:=hR5.frozen 2;have z3:=hR5.frozen 3;have tg:=((((hR5.set 0 (H? f.b) rfl).set 1 (H? f.e) rfl).set 2 (A! f.seq) rfl).set 3 (D? f.d) rfl);have HD5:E!<|_/\_/\_/\_:=A? ⟨(tg.cell 0:_=C! (Value.bool f.b)),(tg.cell 1:_=C! (Value.bool f.e)),(tg.cell 2:_=C! (Value.int .i64 f.seq)),(tg.cell 3:_=C! (Value.string f.d))⟩;have HX5:=A? hx5;have afm:=HRF.out;clear h5 ho5 hz5 hx5 hs5 hR4 hF4 SW aa5 hR5 hF5 tg c5 hl4))
  obtain⟨d0,d1,d2,d3⟩:=HD5.out;rw[HTT.out];unfold Hs;rw[G? HZ.out];exact nbd
 .have hzb:(N-1==0)=false:=by simp[hz]
  have HZ:=A? hz;clear hz
  go_wp2_with(first
   |(refine eD rfl _ _ _ rfl underlying91 underlying3 n (.int .i64 (N-1)) HX3.mo rfl rfl rfl λw5 h5 ho5 hz5=>?_
     obtain⟨G5,hx5,hs5⟩:=HX3.opens (o:=bI M.opn n<|N-1) ho5 nbJ;have c5:=hx5.cells.2.2.2.2.2.1;have hl4:=hx5.vO n;simp only[iQ,t!,ba5]at hl4;have hR5:=HR3.step hs5 (by rw[Mf.out];exact aJ ht);have hF5:=HF3.step hs5 (by rw[SV.out];exact aJ ht);have SX:=A?<|(hs5.old _ HR3.lt).trans Mf;have Jd:=A?<|aa4.trans hs5;have y0:=hF5.cell 0;have y1:=hF5.cell 1;have y2:=hF5.cell 2;have y3:=hF5.cell 3;have r0:=hR5.cell 0;have r1:=hR5.cell 1;have r2:=hR5.cell 2;have r3:=hR5.cell 3;have z0:=hR5.frozen 0;have z1:=hR5.frozen 1;have z2:=hR5.frozen 2;have z3:=hR5.frozen 3;have tg:=((((hR5.set 0 (H? f.b) rfl).set 1 (H? f.e) rfl).set 2 (A! f.seq) rfl).set 3 (D? f.d) rfl);have HD5:E!<|_/\_/\_/\_:=A? ⟨(tg.cell 0:_=C! (Value.bool f.b)),(tg.cell 1:_=C! (Value.bool f.e)),(tg.cell 2:_=C! (Value.int .i64 f.seq)),(tg.cell 3:_=C! (Value.string f.d))⟩;have HX5:=A? hx5;have afm:=HRF.out;clear h5 ho5 hz5 hx5 hs5 hR5 hF5 tg))
  obtain⟨d0,d1,d2,d3⟩:=HD5.out;rw[HTT.out];unfold Hs;rw[F! HZ.out];exact nbd):P:=h
theorem naZ(h:P:=by
 have hjX:=HJX;have hSX:E!<|∀w',cE w' b lb hb j->UT b hb j w':=A?<|λw' h=>⟨h.c5,h.c3,h.UB⟩;refine dW (UT b hb j) (zcb [10]) (hSX _<|hjX.below<|aQ U?) ?_;refine tK ?_;apply aj;have hjD:=hjX.below<|aQ U?;have hoD:=hoX.then<|aQ<|P! WX.heap.size WX;have Hu:=Pu.only (S:=λ_=>False) (Only.aP<|aQ<|P! WX.heap.size WX)<|λk h=>h.elim;obtain⟨WD,hWD⟩:∃WD,WX.drew=WD:=⟨_,rfl⟩;rw[hWD]at hjD hoD Hu|-;clear hWD hjX hoX Pu HJX hSX;by_cases abb:(j.held.length:Int)<=j.most
 .have vI:=US hrun.out (by rw[HST.out];unfold mA;rw[G? abb]);go_wp2;go_ret;refine⟨_,rfl,?_⟩;rw[vI];exact⟨Hu,hjD,hoD⟩
 .obtain⟨hr1,hr2,hr3⟩:=Mh hrun.out hinv.out (by rw[HST.out];unfold mA;rw[F! abb]);obtain⟨ahd,hle2⟩:=wQ j;obtain⟨hp1,hp2,-⟩:=eF j;have hr4:=A? hr1;clear hr1
  go_wp2_with(first
   |(go_at_call 239
     apply(HLe _ hjD).mono;rintro e w6 ⟨rfl,hb6⟩;have hj6:=hjD.below hb6;have ho6:=hoD.then hb6)
   |(go_at_call 240
     apply(HLt (ji j+1) _ hj6 B!).mono;rintro e w7 ⟨rfl,hj7,ho7⟩))
  have ho8:=ho6.trans ho7;have ny:=(Hu.only (S:=λ_=>False) (Only.aP hb6)<|λk h=>h.elim).only ho7 hlow;have hm8:=DL hj7;go_roundw
  case rel=>exact⟨n-1,_,out,ny,hj7,ho8,A? hr2,hr4⟩
  case measure=>rw[hm8,hmu];exact hr3):P:=h
theorem mb4(h:P:=by
 go_wp2
 go_ret;exact⟨rfl,h,Only.refl _ _⟩):P:=h
theorem nc9(h:P:=by
 obtain⟨c6,f6⟩:=aet _ hj8;rw[HH.out]at HI HE;have hj9:cE (w8.setCell (B? b 6)<|A!<|m.lost+1) b lb hb {M with lost:=m.lost+1}:=hj8.cells (hj8.blk.set 6 _ rfl) (ay _ _ _ _) rfl rfl;have ho9:=ho8.trans (ay w8 b 6<|A!<|m.lost+1).j1;have hoz:=ho9.size;go_wp2_with(go_at_call 200;apply(HLR _ HI _ hj9).mono;rintro e w11 ⟨v,rfl,hown,hj11,ho11⟩;obtain⟨va,vc,rfl,-,-⟩:=hown.1.form);rw[HE.out];go_ret2;exact⟨_,rfl,⟨hown.1,λk hk=>⟨Z? hoz (hown.2 k hk).1,(hown.2 k hk).2⟩⟩,hj11,ho9.trans ho11⟩):P:=h
theorem meT(h:P:=by
 split
 .exact⟨rfl,rfl⟩
 .split<;>exact⟨rfl,rfl⟩):P:=h
theorem ncS(h:P:=by
 have e:lk (bC P id 6) id={lk P id with phase:=6}:=by
  refine(show lk (bC P id 6) id=lk (aN P id<|λl=>{l with phase:=6}) id from rfl).trans ?_;rw[dV,G? rfl]
 rw[e];exact xO):P:=h
theorem naN(h:P:=by
 have HK5:E!<|au (bC P id 6).links id=true:=A?<|(aG (λl=>{l with phase:=6}) Df id).trans Df
 have HI5:E! ((lk (bC P id 6) id).id=id):=A? (by
  exact ncS)
 have HB5:=A?<|(HX5 id HK).trans HB;have hd:=hp5.drew;have d2:=fJ hd HK5 HI5;rw[HB5.out]at d2;have c29:=hd.p.blk.k 29
 have Tc:E! (∀w',Only (λk=>k=x5.lm) w5.drew w'->w'.cell? (B? b 29)=C! (.map (C! x5.lm))/\w'.cell? (B? B 2)=N? id):=A? (by
  have hpb:b≠x5.lm:=λe=>by
   have h1:=hd.p.tl;rw[<-e,hd.p.tag]at h1;simp at h1
  have hpl:B≠x5.lm:=λe=>by
   have h1:=hd.p.tl;let⟨y2,h2⟩:=hd.aR HK5;rw[<-e,<-HB5.out,h2.tag]at h1;simp at h1
  exact λw' ho=>⟨ho.cell c29 hpb,ho.cell d2 hpl⟩)
 have nV:=bW hd HK5;rw[HB5.out]at nV
 have tT:E! (G5 B=[n,9,id]):=A? (by
  let⟨y2,h2⟩:=hd.aR HK5;rw[<-HB5.out];exact h2.tag)
 have MW:=A? hd.p.lm;go_wp2;refine dW (λw'=>L! w' b 29 (.map<|C! x5.lm)/\J? w' B 2 id) (zcb [8,1]) (⟨c29,d2⟩) ?_;refine R? ?_;intro K hK;go_wp2_with(refine fW rfl _ _ rfl underlying90 underlying3 id MW rfl rfl λw6 h6 ho6 hz6=>?_);apply O! hK (Tc _ ho6);apply aj;let⟨d1,d2'⟩:=hd.p.del id ho6 h6;have e2:=(Tc _ ho6).2;let⟨p6,s6⟩:=hd.peer d1 rfl d2';have HS6:=A?<|(HS5.trans<|aB (bG n) G5 w5).trans<|s6.trans<|aB (bG n) (grow G5 w5.drew.heap.size free) w6;have Td:=A?<|(s6.old _ nV).trans tT;have HP6:=A? p6.drew
 have f27:w6.drew.cell? (B? b 27)=C! (ptr sb):=by
  have:L! w6.drew b 27<|vE x5.s:=HP6.p.blk.cell 27;rw[this,show x5.s=C! sb from HP6.xs];rfl
 have f2:J? w6.drew B 2 id:=e2;have Ml:=A?<|yT id HP6.s;simp only at Ml
 have EV:E! (∀G' w',Step (aq [2]) (grow G5 w5.drew.heap.size free) w6.drew G' w'->w'.cell? (B? b 27)=C! (ptr sb)/\w'.cell? (B? B 2)=N? id):=A? λG' w' hs=>⟨hs.cell f27 (by
  show¬aq [2] (grow _ _ _ b);rw[HP6.p.tag];intro e;simp[aq]at e;rcases HP6.n01 with h|h<;>omega),hs.cell f2 (by
  show¬aq [2] (grow _ _ _ B);rw[Td.out];intro e;simp[aq]at e;rcases HP6.n01 with h|h<;>omega)⟩
 unfold ptr at Ml EV f27;go_wp2;refine dW (λw'=>L! w' b 27 (P? sb)/\J? w' B 2 id) (zcb [8,1]) (⟨f27,f2⟩) ?_;refine R? ?_;intro K hK;go_wp2_with(go_at_call 78;apply Ml.mono;rintro e w7 ⟨rfl,G7,hq7,hs7⟩);have hE:=EV _ _ hs7;apply O! hK hE;apply aj;have HE:=A? hE.2;let⟨p7,s7⟩:=HP6.switch hs7 hq7;have HS7:=A?<|HS6.trans s7;go_wp2;go_end0;refine⟨⟨rfl,G7,x5,?_,HS7,HX5⟩,by rw[HB.out];exact HE⟩;rw[xC.out,Hw];exact p7):P:=h
theorem ncP(h:P:=by
 have HX5:=A?<|λk (hk:au z.1.links k=C?)=>(hx5 k<|tG k hk).trans<|Hx k hk;exact naN):P:=h
theorem naq(h:P:=by
 refine⟨⟨rfl,_,x5,?_,HS8,HX5⟩,?_⟩
 .rw[Hz.out,e];exact HP8
 .rw[HB.out]
  have hi8:(lk (bH P7 id {lk P7 id with at_:=NW+RS}) id).id=id:=by
   refine(show(lk (bH P7 id {lk P7 id with at_:=NW+RS}) id).id=(lk (aN P7 id<|λl=>{l with at_:=NW+RS}) id).id from rfl).trans ?_;rw[dV,G? rfl,HL7.out];show(lC (lk P5 id) MG).id=id;rw[show(lC (lk P5 id) MG).id=(lk P5 id).id from(lK _ _).id,HL5.out];exact xO
  have hc:=fJ HP8 ((aG (λl=>{l with at_:=NW+RS}) HK7 id).trans HK7) hi8;rw[HB5.out]at hc;exact hc):P:=h
theorem ncL(h:P:=by
 obtain⟨y,hy⟩:=HP4.aR<|HK4 id HK;have:J? w4 (x3.f id) 5<|(lk P4 id).num:=hy.blk.cell 5;rw[HB3.out,HL4.out]at this;rw[this];show C! (Value.int .i64 (lk P id).num)=_;rw[XD.out]):P:=h
theorem naY(h:P:=by
 rw[<-hP7];refine(show lk (bH P5 id<|lC (lk P5 id) MG) id=lk (aN P5 id<|λl=>lC l MG) id from rfl).trans ?_;rw[dV,G? rfl]):P:=h
theorem ncT(h:P:=by
 rw[<-hP3];refine(show lk (bC P id 4) id=lk (aN P id<|λl=>{l with phase:=4}) id from rfl).trans ?_;rw[dV,G? rfl]):P:=h
theorem nca(h:P:=by
 have rQ:=ng 4 (id:=id) HP (tG id HK) xO;rw[Mk.out]at rQ;have rQ:=A? rQ;unfold ptr at rQ;go_wp2_with(go_at_call 151;apply rQ.mono;rintro e w3 ⟨rfl,G3,x3,hp3,hs3,hx3⟩);obtain⟨P3,hP3⟩:=F?<|bC P id 4;rw[hP3]at hp3
 have HL3:E! (lk P3 id={lk P id with phase:=4}):=A? (by
  exact ncT)
 have HK3:E!<|∀k,au z.1.links k=C?->au P3.links k=true:=A? λk hk=>nbN;have HX3:=A?<|λk (hk:au z.1.links k=C?)=>(hx3 k<|tG k hk).trans<|Hx k hk;have HE3:E!<|P3.changes=P.changes/\P3.now=P.now/\P3.c=P.c/\P3.join=P.join/\P3.side=P.side:=A? (by rw[<-hP3];exact⟨rfl,rfl,rfl,rfl,rfl⟩);have Tn:=A? hP3;have HS3:=A?<|HS.trans hs3;have HB3:=A?<|(HX3 id HK).trans HB;have HP3:=A? hp3.drew;clear hp3 hs3 hx3 hP3 rQ HP HS Hx;obtain⟨lb,hb,HJ⟩:=HP3.p.j;have gI:=A?<|C0 id HJ.Ww<|by rw[HE3.2.2.2.1,tU.2.2.2];exact HJL
 have HJ:=A? HJ;have f21:=HP3.p.blk.k 21;have f2:=fJ HP3 (id:=id) (HK3 id HK) (by rw[HL3.out];exact xO);rw[HB3.out]at f2;have EA:E!<|∀w5 G5 j5,aS w5 G5 n b sb x3 ({P3 with join:=j5},z.2)->w5.cell? (B? b 21)=C! (ptr x3.j)/\w5.cell? (B? B 2)=N? id:=A? λw5 G5 j5 h5=>⟨h5.p.blk.cell 21,naX⟩;obtain⟨JB,Mj⟩:=F? x3.j;simp only at gI HJ;rw[Mj]at gI HJ f21 EA;have HJB:=A? Mj;clear Mj;have abn:=HP3.p.blk.lt;have Ia:=bW HP3 (id:=id)<|HK3 id HK;rw[HB3.out]at Ia;unfold ptr at gI f21 EA;go_wp2;refine dW (λw'=>L! w' b 21 (P? JB)/\J? w' B 2 id) (zcb [9,1]) (⟨f21,f2⟩) ?_;refine R? ?_;intro K hK;go_wp2_with(go_at_call 235;apply gI.mono;rintro e w4 ⟨rfl,hj4,ho4⟩);obtain⟨hj5,hs5⟩:=HJ.E8 hj4 ho4;obtain⟨hp5,hs5'⟩:=C3 HP3 hs5 mfL;apply O! hK (EA _ _ _ hp5);clear hK K;apply aj;obtain⟨P4,hP4⟩:∃P4:aF,{P3 with join:=(kH P3.join id).1}=P4:=⟨_,rfl⟩;have HE4:E!<|P4.changes=P3.changes/\P4.now=P3.now/\P4.c=P3.c/\P4.side=P3.side/\P4.links=P3.links:=A? (by rw[<-hP4];exact⟨rfl,rfl,rfl,rfl,rfl⟩);simp only at hp5;rw[show(⟨_,_⟩:PS)=(({P3 with join:=(kH P3.join id).1}:aF),z.2)from rfl,hP4]at hp5;have Tp:=A? hP4;have HP4:=A? hp5;have HS4:=A?<|(HS3.trans<|aB (bG n) G3 w3).trans hs5'
 have HL4:E! (lk P4 id={lk P id with phase:=4}):=A? (by
  have e:lk P4 id=lk P3 id:=by unfold lk;rw[HE4.2.2.2.2]
  rw[e];exact HL3)
 have HK4:E!<|∀k,au z.1.links k=C?->au P4.links k=true:=A? λk hk=>by rw[HE4.2.2.2.2];exact HK3 k hk
 clear hp5 hs5 hs5' hj5 hj4 ho4 hP4 gI HJ EA f21 f2 HP3 HS3;have qH:=oY 0 nH (id:=id) HP4 (HK4 id HK) (by rw[HL4.out];exact xO) naD;rw[HB3.out]at qH;have qH:=A? qH
 have g5:w4.cell? (B? B 5)=N? nH:=by
  exact ncL
 have vS:=bW HP4 (id:=id)<|HK4 id HK;rw[HB3.out]at vS;unfold ptr at qH;go_wp2_with(go_at_call 148;apply qH.mono;rintro e w5 ⟨rfl,G5,x5,hp5,hs5,hx5⟩;have hb5:=hp5.p.blk.lt;have g35:=hp5.p.blk.cell 35;have g35':=hp5.p.blk.frozen 35;obtain⟨v35,g35⟩:∃v,L! w5 b 35 v:=⟨_,g35⟩;have HP5:=A? hp5;have HS5:=A?<|HS4.trans hs5;have HX5:=A?<|λk (hk:au z.1.links k=C?)=>(hx5 k<|HK4 k hk).trans<|HX3 k hk;clear hp5 hs5 hx5);have HB5:=A?<|(HX5 id HK).trans HB;obtain⟨P5,hP5⟩:∃P5:aF,{bX P4 id 0 nH with fails:=0}=P5:=⟨_,rfl⟩;have HE5:E!<|P5.now=P4.now/\P5.c=P4.c/\P5.side=P4.side/\P5.links=P4.links:=A? (by rw[<-hP5];exact⟨rfl,rfl,rfl,rfl⟩);obtain⟨p6,s6⟩:=HP5.own (m':={bX P4 id 0 nH with fails:=0}) (ay w5 b 35<|A! 0) (HP5.p.blk.set 35 _ rfl) rfl rfl rfl rfl rfl rfl rfl rfl;rw[hP5]at p6;have Tq:=A? hP5;have HP6:=A? p6;have HS6:=A?<|HS5.trans s6
 have HL5:E! (lk P5 id={lk P id with phase:=4}):=A? (by
  have e:lk P5 id=lk P4 id:=by unfold lk;rw[HE5.2.2.2]
  rw[e];exact HL4)
 have HK5:E!<|∀k,au z.1.links k=C?->au P5.links k=true:=A? λk hk=>by rw[HE5.2.2.2];exact HK4 k hk
 clear p6 s6 hP5 HP5 HS5 qH HP4 HS4;generalize w5.setCell (B? b 35) (A! 0)=w6 at HP6 HS6|-;clear g35 g35';have xP:=qG HP6.p.blk;have xS:=ze (dZ P5) (HP6.p.mG<|HK5 id HK) N! naH;rw[HB5.out]at xS;obtain⟨MG,Mm⟩:=F?<|dZ P5;rw[Mm]at xP xS;have Mn:=A? Mm;have xP:=A? xP;have xS:=A? xS;clear Mm;unfold ptr at xP xS;refine M! xP λwm ew=>?_;rw[ew];clear ew wm;go_wp2_with(go_at_call 123;apply xS.mono;rintro e w7 ⟨rfl,G7,hl7,hs7⟩);rw[<-HB5.out]at hl7;obtain⟨p7,s7⟩:=HP6.gY (HK5 id HK) hs7 hl7;obtain⟨P7,hP7⟩:=F?<|bH P5 id<|lC (lk P5 id) MG;simp only at p7;rw[hP7]at p7;have Ts:=A? hP7;have HP7:=A? p7.drew;have HS7:=A?<|(HS6.trans s7).trans<|aB (bG n) G7 w7;have HE7:E!<|P7.now=z.1.now/\P7.c=z.1.c:=A? ncW;have HK7:E!<|au P7.links id=true:=A? ncf
 have HL7:E! (lk P7 id=lC (lk P5 id) MG):=A? (by
  exact naY)
 clear p7 s7 hl7 hs7 hP7 xS HP6 HS6 xP;have f25:J? w7.drew b 25 P7.now:=HP7.p.blk.k 25;have f10:J? w7.drew b 10 P7.c.restart:=HP7.p.blk.k 10;rw[HE7.1]at f25;rw[HE7.2]at f10;obtain⟨y,hy⟩:=HP7.aR HK7;have how:∀(w6:D!) (l':aM) (ho:Only (λk=>k=x5.f id) w7.drew w6) (el:l'.neg=(lk P7 id).neg/\l'.proof=(lk P7 id).proof/\l'.term=(lk P7 id).term/\l'.out=(lk P7 id).out) (hb:aO w6 (x5.f id) 107<|bS y l'),aS w6 (grow G7 w7.drew.heap.size free) n b sb x5 (bH P7 id l',z.2)/\Step (bG n) G7 w7.drew (grow G7 w7.drew.heap.size free) w6:=λw6 l' ho el hb=>HP7.oq HK7 hy ho el hb;have hne:=ni HP7 HK7;have xR:=hy.blk;have Tt:=hy.blk.lt;have afw:=HP7.p.blk.lt;rw[HB5.out]at how hne xR Tt;have HOW:=A? how;have HBY:=A? xR;obtain⟨NW,rG⟩:=F? z.1.now;obtain⟨RS,xQ⟩:=F? z.1.c.restart;obtain⟨b1,b2,b3,b4⟩:=Th.out;rw[rG]at f25 b1 b2;rw[xQ]at f10 b3 b4;have wq:=A? rG;have QC:=A? xQ;have qF:E!<|∀w',Only (λk=>k=B) w7.drew w'->J? w' b 25 NW/\J? w' b 10 RS:=A? λw' ho=>⟨ho.cell f25<|X? hne,ho.cell f10<|X? hne⟩;obtain⟨v10,d10⟩:∃v,L! w7.drew B 10 v:=⟨_,xR.cell 10⟩;have f10':=xR.frozen 10;clear hy xR hne how rG xQ;go_wp2;refine dW (λw'=>J? w' b 25 NW/\J? w' b 10 RS) (zcb [13,1]) (⟨f25,f10⟩) ?_;refine R? ?_;intro K hK;go_wp2_with fail;refine O! hK (qF _<|ay w7.drew B 10 _) ?_;clear hK K;apply aj;obtain⟨p8,s8⟩:=HOW _ {lk P7 id with at_:=NW+RS} (ay w7.drew B 10<|A!<|NW+RS) ⟨rfl,rfl,rfl,rfl⟩<|HBY.set 10 _ rfl;have HP8:=A? p8;have HS8:=A?<|HS7.trans s8;clear p8 s8 HOW qF;go_wp2;go_end0
 have e:jJ P id nH=bH P7 id {lk P7 id with at_:=NW+RS}:=by
  have h5:P5={bX {bC P id 4 with join:=(kH (bC P id 4).join id).1} id 0 nH with fails:=0}:=by rw[Tn.out,Tp.out,Tq.out]
  have hm:dZ (bX {bC P id 4 with join:=(kH (bC P id 4).join id).1} id 0 nH)=MG:=by rw[<-Mn.out,h5];rfl
  have hn:(bX {bC P id 4 with join:=(kH (bC P id 4).join id).1} id 0 nH).now+(bX {bC P id 4 with join:=(kH (bC P id 4).join id).1} id 0 nH).c.restart=NW+RS:=by
   rw[<-wq.out,<-QC.out,<-tU.2.1,<-tU.2.2.1];rfl
  rw[si,hm,hn,<-h5,HL7.out,<-Ts.out];unfold aN bH;dsimp only;rw[sC]
 exact naq):P:=h
theorem ncj(h:P:=by
 obtain⟨y,hy⟩:=h.aR hk;have:L! w (x.f id) 4<|H? (lk z.1 id).dials:=hy.blk.cell 4;rw[this,hdl]):P:=h
theorem naL(h:P:=by
 have qd:=nj HP Yp hN<|tG id HK;rw[HB.out]at qd;have qd:=A? qd;clear HP;unfold ptr at qd;go_wp2_with(go_at_call 113;apply qd.mono;rintro e w4 ⟨⟨rfl,G4,x4,hp4,hs4,hx4⟩,hi4⟩);go_end0;refine⟨⟨rfl,G4,x4,?_,HS.trans hs4,λk hk=>hx4 k<|tG k hk⟩,hi4⟩;rw[Hz.out];exact hp4):P:=h
theorem nac(h:P:=by
 refine R? ?_;intro K hK;go_wp2_with fail;refine O! hK ⟨e5,e34⟩ ?_;clear hK K;refine T? ?_;have HP:=xD;have HS:=xW;clear xD xW MX e5 e34;clear Tg;have Hx:E!<|∀k,au z.1.links k=C?->x1.f k=x.f k:=A? (by rw[<-HX1.out];exact λ_ _=>rfl);have Mk:E!<|x1.f id=B:=A? (by rw[<-HX1.out];exact HB);rw[HX1.out]at HP;clear Yp;exact nca):P:=h
theorem md9(h:P:=by
 go_in
 go_wp2_with(first|(go_at_call 119;refine M! HST λwm ew=>?_)|(go_at_call 149;refine M! Fl λwm ew=>?_)|(go_at_call 113;apply qd.mono;rintro e w4 ⟨⟨rfl,G4,x4,hp4,hs4,hx4⟩,hi4⟩));go_end0;refine⟨⟨rfl,G4,x4,?_,hs4,hx4⟩,hi4⟩;rw[HA.out];exact hp4):P:=h
theorem bcJ(h:P:=by
 go_in
 go_wp2_with(first|(go_at_call 119;refine M! HST λwm ew=>?_)|(go_at_call 149;refine M! Fl λwm ew=>?_));go_end0;refine⟨⟨rfl,G,x,?_,Step.refl _ _ _,λ_ _=>rfl⟩,D2⟩;rw[HA.out];exact HP):P:=h
theorem nbP(h:P:=by
 clear p6 s6 hl6 hs6 e6 qz;unfold ptr at vV;go_wp2_with(go_at_call 193;apply vV.mono;rintro e w7 ⟨⟨rfl,G7,x7,hp7,hs7,hx7⟩,hi7⟩);go_end0;refine⟨⟨rfl,G7,x7,?_,HS6.trans hs7,λi hi=>hx7 i<|Ai i hi⟩,hi7⟩;rw[tH.out];exact hp7):P:=h
theorem md8(h:P:=by
 refine R? ?_;intro K hK;go_wp2_with(go_at_call 179;apply gI.mono;intro e w5 hpost;have ho5:=A?<|j9 hpost;obtain⟨v5,ps5,G5,o5,rfl,vU,hs5,tP,hm5⟩:=XG.CP N! hpost<|λq hq=>mJ _ _ OI q hq);apply O! hK (rZ _ ho5);clear hK K;refine T? ?_
 have XI:ps5.length<=8:=by
  have:=m7 (lk PX id).neg k;rw[<-hm5,g!]at this;exact this
 have qz:=A?<|iw (⟨_,vU⟩:cI w5 G5 [n,9,id] (x.f id) {lk PX id with neg:=(dU (lk PX id).neg k).1}) tP N! nb8;rw[hm5,HB.out]at qz;have HS5:=A? hs5;clear vU hs5 tP hm5 rZ ho5 gI;unfold ptr at qz;go_wp2_with(go_at_call 121;apply qz.mono;rintro e w6 ⟨rfl,G6,hl6,hs6⟩);rw[<-HB.out]at hl6;obtain⟨p6,s6⟩:=DQ.gY mP (HS5.trans hs6) hl6;have e6:bH PX id (dn {lk PX id with neg:=(dU (lk PX id).neg k).1} (dU (lk PX id).neg k).2.1)=aN PX id (λl=>cq l k):=rfl;rw[show((PX,z.2):PS).1=PX from rfl,e6]at p6;have HF6:E!<|Fit N (r+1) (aN PX id (λl=>cq l k),z.2):=A? (dH (f:=λl=>cq l k) (s:=r+1) DM mP B!<|(DM.p.link mP).1.take k).fit;have HK6:=A?<|(aG (λl=>cq l k) mP id).trans mP;have Ai:=A? λi hi=>(aG (λl=>cq l k) mP i).trans<|DN i hi;have vV:=oH p6 HF6 hN B! HK6;rw[HB.out]at vV;have vV:=A? vV;have HS6:=A?<|(ur.trans<|aB (bG n) GW W).trans s6;exact nbP):P:=h
theorem nbn(h:P:=by
 go_in
 go_wp2_with(go_at_call 48;refine M! Bv λwm ew=>?_);clear hw1;have Dg:=HP1;have ur:=HS1;obtain⟨PX,qJ⟩:=F? z.1;have DM:E!<|Fit N r (PX,z.2):=A? mcU;have mP:E!<|au PX.links id=true:=A? mbt;have DN:E!<|∀i,au z.1.links i=C?->au PX.links i=true:=A? mbs;have Dg:E!<|aS W GW n b sb x (PX,z.2):=A? mce;rw[qJ]at tH;clear qJ HP1 HS1;have hd:=Dg.drew;obtain⟨y,hy⟩:=hd.aR mP;have d0:=hy.blk.k 0;rw[HB.out]at d0;have XG:=A? hy;have XH:=hd.p.blk.lt;have DP:=hy.blk.lt;rw[HB.out]at DP;have ue:y.n≠Q:=λe=>ma5;have EP:B≠y.n:=λe=>bcg;have gI:=A?<|oU y.n y.tb y.o v (lk PX id).neg k ml W.drew hy.side HEX.m HVX.at bcs;have r0:J? W.drew Q 0 10:=q0;have r1:J? W.drew Q 1 k.id:=q1;have r2:L! W.drew Q 2 v:=q2;have r3:L! W.drew Q 3<|D? k.data:=q3;have rZ:E!<|∀w',Only (· =y.n) W.drew w'->L! w' B 0 (ptr y.n)/\J? w' Q 0 10/\J? w' Q 1 k.id/\L! w' Q 2 v/\L! w' Q 3 (D? k.data):=A? λw' ho=>⟨ho.cell d0 EP,ho.cell r0<|X? ue,ho.cell r1<|X? ue,ho.cell r2<|X? ue,ho.cell r3<|X? ue⟩;have lV:=h! r0;simp only at lV;unfold cm at gI;rw[Sl.out]at gI;have DQ:=A? hd;clear hd hy ue EP q0 q1 q2 q3;unfold ptr at d0 rZ;refine dW (λw'=>L! w' B 0 (P? y.n)/\J? w' Q 0 10/\J? w' Q 1 k.id/\L! w' Q 2 v/\L! w' Q 3 (D? k.data)) (zcb [5,1,5]) (⟨d0,r0,r1,r2,r3⟩) ?_;exact md8):P:=h
theorem nb6(h:P:=by
 go_in
 go_wp2_with(go_at_call 48;refine M! Bv λwm ew=>?_);clear hw1;have Dg:=HP1;have ur:=HS1;obtain⟨PX,qJ⟩:=F? z.1;have DM:E!<|Fit N r (PX,z.2):=A? mcU;have mP:E!<|au PX.links id=true:=A? mbt;have DN:E!<|∀i,au z.1.links i=C?->au PX.links i=true:=A? mbs;have Dg:E!<|aS W GW n b sb x (PX,z.2):=A? mce;rw[qJ]at tH;clear qJ HP1 HS1;have hd:=Dg.drew;obtain⟨y,hy⟩:=hd.aR mP;have d0:=hy.blk.k 0;rw[HB.out]at d0;have XG:=A? hy;have XH:=hd.p.blk.lt;have DP:=hy.blk.lt;rw[HB.out]at DP;have ue:y.n≠Q:=λe=>ma5;have EP:B≠y.n:=λe=>bcg;have gI:=A?<|oU y.n y.tb y.o v (lk PX id).neg k ml W.drew hy.side HEX.m HVX.at bcs;have r0:J? W.drew Q 0 5:=q0;have r1:J? W.drew Q 1 k.id:=q1;have r2:L! W.drew Q 2 v:=q2;have r3:L! W.drew Q 3<|D? k.data:=q3;have rZ:E!<|∀w',Only (· =y.n) W.drew w'->L! w' B 0 (ptr y.n)/\J? w' Q 0 5/\J? w' Q 1 k.id/\L! w' Q 2 v/\L! w' Q 3 (D? k.data):=A? λw' ho=>⟨ho.cell d0 EP,ho.cell r0<|X? ue,ho.cell r1<|X? ue,ho.cell r2<|X? ue,ho.cell r3<|X? ue⟩;have lV:=h! r0;simp only at lV;unfold cm at gI;rw[Sl.out]at gI;have DQ:=A? hd;clear hd hy ue EP q0 q1 q2 q3;unfold ptr at d0 rZ;refine dW (λw'=>L! w' B 0 (P? y.n)/\J? w' Q 0 5/\J? w' Q 1 k.id/\L! w' Q 2 v/\L! w' Q 3 (D? k.data)) (zcb [5,1,5]) (⟨d0,r0,r1,r2,r3⟩) ?_;exact md8):P:=h
theorem naM(h:P:=by
 go_end0;refine⟨⟨rfl,G8,x8,?_,HS7.trans hs8,λi hi=>hx8 i<|abw i hi⟩,hi8⟩;rw[qH.out];exact hp8):P:=h
theorem mef(h:P:=by
 clear HC0;go_wp2_with(first|(go_at_call 196;refine M! MY λwm ew=>?_)|(go_at_call 168;refine M! De λwm ew=>?_)|(go_at_call 197;refine M! Jh λwm ew=>?_));go_end0;have hc:=fJ HP7 HK7 HI7;rw[HB.out]at hc;refine⟨⟨rfl,G7,x,?_,HS7,λ_ _=>rfl⟩,by rw[HB.out];exact hc⟩;rw[qH.out];exact HP7):P:=h
theorem naF(h:P:=by
 simp only at p7;rw[hP7]at p7;have HS7:=A?<|(HS6.trans<|aB (bG n) G6 w6).trans s7;have HP7:=A? p7;have HL7:E!<|lk P7 id=lk P6 id:=A? (by rw[<-hP7];rfl);have HK7:E!<|au P7.links id=true:=A? (by rw[<-hP7];exact HK6);have abw:E!<|∀i,au z.1.links i=C?->au P7.links i=true:=A? λi hi=>by rw[<-hP7];exact Ai i hi
 have HI7:E!<|(lk P7 id).id=id:=A? (by rw[HL7.out];exact HI6);have HF7:E!<|Fit N (r+1) (P7,z.2):=A? (gB HF6 (p':=P7) (by rw[<-hP7];exact{HF6.p with}) O? (by rw[<-hP7];exact{eQ.refl P6 with}) (by rw[<-hP7]) (λk=>by rw[<-hP7])<|by rw[<-hP7]).fit;generalize grow G6 w6.drew.heap.size free=G7 at HP7 HS7;let⟨y7,hy7⟩:=HP7.aR HK7;obtain⟨pb,hb1,hb2,-⟩:=PG HP7 HK7 (q:=q') (by rw[show lk ((P7,z.2):PS).1 id=lk P6 id from HL7.out];exact HQ6);have e3:J? w7 (x.f id) 3<|(lk P7 id).phase:=hy7.blk.k 3;have De:=A?<|nU hb2;have MY:=A?<|AQ hb2;have Jh:=A?<|CQ hb2;have rF:=Ib HP7 (HE.uM hn1 HS7) HF7 hN B! HK7;have qd:=nj HP7 HF7.p hN HK7;have hb7:=HP7.p.blk.lt;have hl7:=hy7.blk.lt;rw[HB.out]at hb1 e3 rF qd hl7;have rF:=A? rF;have qd:=A? qd
 have HC0:E! (oO z id c=if q'.failed then fq (P7,z.2) id else if(lk P7 id).phase=3/\q'.proved=C?/\q'.taken=C? then jG (P7,z.2) id else(P7,z.2)):=A? (by
  exact Ie HPQ HQQ Dh ahn afz hP7)
 let⟨PH,uT⟩:=F?<|(lk P7 id).phase;let⟨FLv,hFL⟩:=F? q'.failed;let⟨TKv,PJ⟩:=F? q'.taken;rw[uT]at e3 HC0;rw[hFL]at MY HC0;rw[PJ]at Jh HC0;rw[hPR]at De HC0;clear hPR;clear hP7 p7 s7 t1 t2 hm7 ho7 hz7 hy7 hb2 uT hFL PJ;unfold ptr at*
 go_wp2_with fail;cases FLv with
 |true=>
  have qH:E!<|oO z id c=fq (P7,z.2) id:=A? md2;clear HC0;go_wp2_with(first|(go_at_call 196;refine M! MY λwm ew=>?_)|(go_at_call 168;refine M! De λwm ew=>?_)|(go_at_call 197;refine M! Jh λwm ew=>?_)|(go_at_call 113;apply qd.mono;rintro e w8 ⟨⟨rfl,G8,x8,hp8,hs8,hx8⟩,hi8⟩));exact naM
 |false=>
  by_cases p3:PH=3
  .subst p3;cases PRv with
   |true=>
    cases TKv with
    |true=>
     have qH:E!<|oO z id c=jG (P7,z.2) id:=A? md2;clear HC0;go_wp2_with(first|(go_at_call 196;refine M! MY λwm ew=>?_)|(go_at_call 168;refine M! De λwm ew=>?_)|(go_at_call 197;refine M! Jh λwm ew=>?_)|(go_at_call 198;apply rF.mono;rintro e w8 ⟨⟨rfl,G8,x8,hp8,hs8,hx8⟩,hi8⟩));exact naM
    |false=>
     have qH:E!<|oO z id c=(P7,z.2):=A? md2;exact mef
   |false=>
    have qH:E!<|oO z id c=(P7,z.2):=A? md2;exact mef
  .have q3:=Q?.2 p3;have qH:E!<|oO z id c=(P7,z.2):=A? (by rw[HC0.out];simp[p3]);exact mef):P:=h
theorem ncH(h:P:=by
 go_roundw
 case rel=>exact⟨k+1,B!,W!,A? ⟨_,HP5,HS5⟩⟩
 case measure=>simp[intOf];omega):P:=h
theorem nbt(h:P:=by
 let⟨y,hy⟩:=EW w1 hb k HK;have:J? w1 (x.f k) 3<|(lk z.1 k).phase:=hy.blk.cell 3;rw[this,HPH.out]):P:=h
theorem naK(h:P:=by
 rw[<-hW];have hn:=aO.new (w.setCell (B? b 4)<|A! 0) 157 #[A! code,A! id,A! answer,J! va os.length vc];rw[show(w.setCell (B? b 4)<|A! 0).heap.size=w.heap.size from N!]at hn;exact hn):P:=h
theorem nb5(h:P:=by
 go_wp2
 go_ret;exact⟨_,[((⟨code+1,id,0,os⟩:cR),ua,uc)],rfl,⟨HO,λx hx=>by rw[j?]at hx;subst hx;exact TC⟩,rfl,HM3,HO3⟩):P:=h
theorem nbB(h:P:=by
 let⟨W,hW⟩:=F?<|w.alloc (.cells #[A! code,A! id,A! answer,J! va os.length vc] 157);have Ik:gF W b oa ol M:=by rw[<-hW];exact aO.below HM HB
 have uO:Only (· =b) w W:=by rw[<-hW];exact(Only.refl _ _).alloc _
 have Il:aI W (J! va os.length vc) os:=by rw[<-hW];exact HV.below HB
 have wW:aO W w.heap.size 157 #[A! code,A! id,A! answer,J! va os.length vc]:=by rw[<-hW];exact HX
 rw[hW];have y0:=wW.k 0;have y1:=wW.k 1;have y3:=wW.k 3;clear hW wW;refine dW (λw'=>J? w' w.heap.size 0 code/\J? w' w.heap.size 1 id/\L! w' w.heap.size 3 (J! va os.length vc)) (zcb [8,1,1,1,1]) (⟨y0,y1,y3⟩) ?_;refine R? ?_;intro K hK;go_wp2_with(go_at_call 219;refine(HC _<|Il.below (P! _ _).drew).mono ?_;rintro e w3 ⟨⟨v',rfl,hown⟩,hb⟩;obtain⟨ua,uc,rfl,-,-⟩:=aD.form hown.at);refine O! hK ⟨af hb y0,af hb y1,af hb y3⟩ ?_;clear hK K;refine tK ?_;have i0:=af hb y0;have i1:=af hb y1;have i3:=af hb y3;have hM3:gF w3 b oa ol M:=aO.below (aO.below Ik (P! _ _).drew) hb;have hO3:=uO.drew.then hb;have ez:=hown.base<|show w.heap.size<=_ from uO.size;clear y0 y1 y3 hb hown Ik uO Il;refine ai λK hK=>?_;go_wp2_with fail;have hb2:K! w3<|w3.alloc (.cells #[A!<|code+1,A! id,A! 0,J! ua os.length uc] 157):=R!;refine O! hK ⟨af hb2 i0,af hb2 i1,af hb2 i3⟩ ?_;clear hK K;refine T? ?_;have HO:=A?<|bq.one Cj w3 ((⟨code+1,id,0,os⟩:cR),ua,uc) w.heap.size hO3.size;have TC:=A?<|ez.below hb2;have HM3:=A?<|aO.below hM3 hb2;have HO3:=A?<|hO3.then hb2;clear hb2 i0 i1 i3 hM3 hO3 ez;exact nb5):P:=h
theorem nbA(h:P:=by
 go_wp2
 go_ret;exact⟨_,[((⟨code+1,id,1,os⟩:cR),ua,uc)],rfl,⟨HO,λx hx=>by rw[j?]at hx;subst hx;exact TC⟩,rfl,HM3,HO3⟩):P:=h
theorem nbO(h:P:=by
 let⟨W,hW⟩:=F?<|w.alloc (.cells #[A! code,A! id,A! answer,J! va os.length vc] 157);have Ik:gF W b oa ol M:=by rw[<-hW];exact aO.below HM HB
 have uO:Only (· =b) w W:=by rw[<-hW];exact(Only.refl _ _).alloc _
 have Il:aI W (J! va os.length vc) os:=by rw[<-hW];exact HV.below HB
 have wW:aO W w.heap.size 157 #[A! code,A! id,A! answer,J! va os.length vc]:=by rw[<-hW];exact HX
 rw[hW];have y0:=wW.k 0;have y1:=wW.k 1;have y3:=wW.k 3;clear hW wW;refine dW (λw'=>J? w' w.heap.size 0 code/\J? w' w.heap.size 1 id/\L! w' w.heap.size 3 (J! va os.length vc)) (zcb [8,1,1,1,1]) (⟨y0,y1,y3⟩) ?_;refine R? ?_;intro K hK;go_wp2_with(go_at_call 219;refine(HC _<|Il.below (P! _ _).drew).mono ?_;rintro e w3 ⟨⟨v',rfl,hown⟩,hb⟩;obtain⟨ua,uc,rfl,-,-⟩:=aD.form hown.at);refine O! hK ⟨af hb y0,af hb y1,af hb y3⟩ ?_;clear hK K;refine tK ?_;have i0:=af hb y0;have i1:=af hb y1;have i3:=af hb y3;have hM3:gF w3 b oa ol M:=aO.below (aO.below Ik (P! _ _).drew) hb;have hO3:=uO.drew.then hb;have ez:=hown.base<|show w.heap.size<=_ from uO.size;clear y0 y1 y3 hb hown Ik uO Il;refine ai λK hK=>?_;go_wp2_with fail;have hb2:K! w3<|w3.alloc (.cells #[A!<|code+1,A! id,A! 1,J! ua os.length uc] 157):=R!;refine O! hK ⟨af hb2 i0,af hb2 i1,af hb2 i3⟩ ?_;clear hK K;refine T? ?_;have HO:=A?<|bq.one Cj w3 ((⟨code+1,id,1,os⟩:cR),ua,uc) w.heap.size hO3.size;have TC:=A?<|ez.below hb2;have HM3:=A?<|aO.below hM3 hb2;have HO3:=A?<|hO3.then hb2;clear hb2 i0 i1 i3 hM3 hO3 ez;exact nbA):P:=h
theorem naR(h:P:=by
 refine T? ?_;have HO:=A?<|bq.one Cj w3 ((⟨code+1,id,1,os⟩:cR),ua,uc) w.heap.size hO3.size;have TC:=A?<|ez.below hb2;have HM3:=A?<|aO.below hM3 hb2;have HO3:=A?<|hO3.then hb2;exact nbA):P:=h
theorem ncJ(h:P:=by
 rw[hW];have y0:=wW.k 0;have y1:=wW.k 1;have y3:=wW.k 3;refine dW (λw'=>J? w' w.heap.size 0 code/\J? w' w.heap.size 1 id/\L! w' w.heap.size 3 (J! va os.length vc)) (zcb [8,1,1,1,1]) (⟨y0,y1,y3⟩) ?_;refine R? ?_;intro K hK;go_wp2_with(go_at_call 219;refine(HC _<|Il.below (P! _ _).drew).mono ?_;rintro e w3 ⟨⟨v',rfl,hown⟩,hb⟩;obtain⟨ua,uc,rfl,-,-⟩:=aD.form hown.at);refine O! hK ⟨af hb y0,af hb y1,af hb y3⟩ ?_;refine tK ?_;have i0:=af hb y0;have i1:=af hb y1;have i3:=af hb y3;have hM3:gF w3 b oa ol M:=aO.below (aO.below Ik (P! _ _).drew) hb;have hO3:=uO.drew.then hb;have ez:=hown.base<|show w.heap.size<=_ from uO.size;refine ai λK hK=>?_;go_wp2_with fail;have hb2:K! w3<|w3.alloc (.cells #[A!<|code+1,A! id,A! 1,J! ua os.length uc] 157):=R!;refine O! hK ⟨af hb2 i0,af hb2 i1,af hb2 i3⟩ ?_;exact naR):P:=h
theorem naa(h:P:=by
 have hk1:K? ((k:Int)=0)=false:=W? B!
 have Ti:E! (Ag z B=(P3,z.2)):=A? (by
  rw[EY.out,F!];rintro⟨-,-,e⟩;apply h0;have e2:=U! List.length e;rw[g!]at e2;exact uS.symm.trans e2)
 go_wp2_with(go_at_call 82;refine M! wu λwm ew=>?_);go_end0;refine⟨rfl,G5,x5,?_,hs5,HX3⟩;rw[Ti.out];exact hp5):P:=h
theorem ncg(h:P:=by
 go_roundw
 case rel=>exact⟨k+1,B!,W!,A? ⟨_,_,HP7,HS7,HS47,HX7⟩⟩
 case measure=>simp[intOf];omega):P:=h
theorem mbM(h:P:=by
 go_end0;refine⟨rfl,G5,x5,?_,hs5,HX3⟩;rw[EY.out,F! N!];exact hp5):P:=h
theorem nbw(h:P:=by
 have HP7:E!<|aS (wr.alloc (.cells #[A! q.code,A! q.id,A! AN,J! qa QL qc] 157)) (grow G5 wr.heap.size free) n b sb x5 (((l.take<|k+1).map (·.1)).foldl (dA mk) P2,z.2):=A? (by rw[rC.out,Kq.out];exact p6);go_wp2;go_roundw
 case rel=>exact⟨k+1,B!,W!,A? ⟨_,_,HP7,HS6,HS46,HX5⟩⟩
 case measure=>simp[intOf];omega):P:=h
theorem nbQ(h:P:=by
 have HLB:E!<|P3.cC.last=B:=A? (by rw[HT3.out];exact abB.1);have afC:E!<|Ag z B=iJ (P3,z.2) B:=A? (by rw[EY.out,G? ⟨rfl,rfl,hl0⟩,HLB.out]);have afD:=A?<|he.uM hn1 hs5;clear hl0 abB;subst h0;rw[HLB.out]at HLS
 go_wp2_with(first
  |(go_at_call 82;refine M! wu λwm ew=>?_)
  |(go_at_call 208;apply HLS.mono;rintro e w8 ⟨v8,rfl,ho8,hb8⟩
    let⟨p8,s8⟩:=hp5.below hb8;have HAW:=A?<|A1 (v:=v8) B p8 (afD.uM hn1 s8) HF3 hN ho8.at HZ C4;have HS8:=A?<|hs5.trans s8;clear p8 s8 ho8 hb8;unfold ptr at HAW)
  |(go_at_call 207;apply HAW.mono;rintro e w9 ⟨rfl,G9,x9,hp9,hs9,hx9⟩))
 go_end0;refine⟨rfl,G9,x9,?_,HS8.trans hs9,λi hi=>(hx9 i<|HK3 i hi).trans<|HX3 i hi⟩;rw[afC.out];exact hp9):P:=h
theorem nbz(h:P:=by
 subst hf;clear h3 h4;go_in;go_wp2_with(go_at_call 48;refine M! Bv λwm ew=>?_);go_end0;exact lU):P:=h
theorem nch(h:P:=by
 have HE:=A? eb;clear hcv hO hblk eb hq hown hbl HF HC d0 d1 f0 f1;go_wp2;go_ret2;exact⟨rfl,uI⟩):P:=h
theorem nbX(h:P:=by
 have hkl:k<l.length:=Δ;let⟨q0,q1⟩:=hcell k hkl;have q0:=af hbl q0;have q1:=af hbl q1;have hsq:=(De k hkl).below hbl;have HS:=A?<|EF l k hkl;have hle:=Kx l<|k+1
 have hlen:((kA l k).length+l[k].1.1.length)*rB.bytes<=140737488355328:=by
  rw[HS.out,X!]at hle;show(_+_)*1<=_;omega
 have Jn:=A? hlen;clear hlen hle hcell;generalize l[k]=x at q0 q1 hsq HS Jn;have abE:=hsq.below<|(P! _ _).alloc O? (.cells #[J! (C!<|B? x.2.1 0) x.1.1.length x.2.2,H? x.1.2] 147);have hq2:jd rB (wr.alloc (.cells #[J! (C!<|B? x.2.1 0) x.1.1.length x.2.2,H? x.1.2] 147)) _ _:=hq.heap λj hj=>baf wr _ j (hown j hj).2;have s0:(wr.alloc (.cells #[J! (C!<|B? x.2.1 0) x.1.1.length x.2.2,H? x.1.2] 147)).cell? (B? wr.heap.size 0)=C! (J! (C!<|B? x.2.1 0) x.1.1.length x.2.2):=ϖ;have HQ2:=A? hq2;have afE:=A? abE;clear hq2 abE hsq;go_wp2_with(at_builtin;refine BP rB rfl _ _ rfl _ _ _ x.1.1 HQ2 rfl rfl afE Jn I! λv' w3 hq3 ho3 hw3=>?_;obtain⟨va,vc,rfl,wJ,xI⟩:=hq3.form);go_roundw
 case rel=>
  refine⟨k+1,B!,W!,by rw[HS.out];have h:=hq3;rw[X!]at h;exact h,λb hb=>?_,?_⟩
  .have h:(Value.slice va (kA l k++x.1.1).length vc).ownBlock=C! b:=by rw[X!];exact hb
   have hz:=ho3.size;rcases hw3 b h with e|e
   .have:=hown b e;simp at hz;omega
   .have h1:=e.1;have h2:=hbl.size;simp at h1;exact⟨B!,e.2⟩
  .exact((hbl.alloc hbl.size _).Iq (by have:=hbl.size;simp;omega) ho3 λb hb=>(hown b hb).1)
 case measure=>simp[intOf];omega):P:=h
theorem nck(h:P:=by
 have h1:=hv2.block k hk
 have h2:grow (grow GW W.heap.size free) w2.heap.size free k=free:=by
  unfold grow;split
  .rw[F! B!]
  .rfl
 rw[h2];exact kQ p3.n01):P:=h
theorem ncG(h:P:=by
 rintro e w6 ⟨rfl,G6,x6,hp6,hs6,hx6⟩;have HS6:=A?<|HS5.trans hs6;have HX6:=A? hx6;go_wp2;go_end0;exact⟨rfl,G6,x6,by rw[pT.out];exact hp6,HS6,λk hk=>(HX6 k mdj).trans (HX4 k hk)⟩):P:=h
theorem ncE(h:P:=by
 go_wp2_with fail;apply qd.mono;rintro e w9 ⟨⟨rfl,G9,x9,hp9,hs9,hx9⟩,-⟩;have HP9:=A? hp9;have HS9:=A?<|ur.trans hs9;have HX9:=A? hx9;clear hp9 hs9 hx9;go_wp2;go_end0;exact⟨rfl,G9,x9,by rw[pT.out];exact HP9,HS9,λk hk=>(HX9 k (by show au P2.links k=C?;rw[mP.out];exact hk)).trans (HX5 k hk)⟩):P:=h
theorem mdE(h:P:=by
 refine dW (λw'=>w'.cell? (B? B 3)=N? PH/\w'.cell? (B? B 11)=N? OV/\w'.cell? (B? b 25)=N? NW) (zcb [23]) (⟨d3,d11,c25⟩) ?_;refine tK ?_;apply aj;go_wp2;go_meet
 case rel=>exact⟨by rw[<-U8.out];simp[hA],rfl⟩):P:=h
theorem mdr(h:P:=by
 rcases baX h1 h2 with e|e<;>simp at e<;>omega):P:=h
theorem nbj(h:P:=by
 go_wp2
 go_roundw
 case rel=>exact⟨j+1,_,_,hjn,W!,rfl,HR8⟩
 case measure=>simp[intOf];omega):P:=h
theorem nal(h:P:=by
 have uI:E! (fu n b sb G w x z (kv id 8 z.1 z.1.c.rate,z.2) (.tuple #[]) (.returned (.tuple #[])) W4):=A? (by
  let⟨G3,k1,k2⟩:=HP4.out.at;exact⟨rfl,G3,x,by rw[pT.out];exact k1,k2,λ_ _=>rfl⟩)
 clear HST rC Yr M4 Dh pT;go_wp2;go_end0;exact uI.out):P:=h
theorem mfG(h:P:=by
 have hjn:j+1<=NL:=hlt;obtain⟨b',off,rfl,q0⟩:=HR.cell uL;have HC:=A?<|Ms _ j uL HR;generalize x'.f R[j]=B at q0 HC;unfold ptr at*
 go_wp2_with fail;refine M! HC λw8 h8=>?_;go_wp2;go_roundw
 case rel=>exact⟨j+1,hjn,W!,h8⟩
 case measure=>simp[intOf];omega):P:=h
theorem baU(h:P:=by
 go_wp2_with(first|(go_at_call 66;apply(M6 _ _ _).mono;rintro e wm ⟨rfl,ew⟩;rw[ew]));go_meet
 case rel=>exact⟨U! Value.bool HL.symm,rfl⟩):P:=h
theorem nag(h:P:=by
 go_meet
 case rel=>exact⟨U! Value.bool HL.symm,rfl⟩):P:=h
theorem baw(h:P:=by
 go_wp2_with(go_at_call 69;apply(Dh _).mono;rintro e wm ⟨rfl,ew⟩;rw[ew]);go_ret;exact⟨by rw[HT.out];rfl,hb⟩):P:=h
theorem mbb(h:P:=by
 go_wp2_with(first|(go_at_call 66;apply(M6 _ _ _).mono;rintro e wm ⟨rfl,ew⟩;rw[ew])|(go_at_call 67;apply HC2.mono;rintro e wm ⟨rfl,ew⟩;rw[ew]));exact nag):P:=h
theorem mai(h:P:=by
 go_wp2_with(first|(go_at_call 66;apply(M6 _ _ _).mono;rintro e wm ⟨rfl,ew⟩;rw[ew])|(go_at_call 68;apply HC1.mono;rintro e wm ⟨rfl,ew⟩;rw[ew]));exact nag):P:=h
theorem nbH(h:P:=by
 clear tU HBD HQ2 HCF HOW Sg HQZ;subst adT;subst adU;go_wp2;go_meet
 case rel=>exact⟨rfl,rfl,rfl⟩):P:=h
theorem mfC(h:P:=by
 go_in
 go_wp2_with(go_at_call 45;refine M! HS λwm ew=>?_;rw[ew]);go_ret;exact⟨rfl,rfl⟩):P:=h
theorem naf(h:P:=by
 unfold ptr at*
 go_in
 go_wp2_with(go_at_call 45;refine M! HS λwm ew=>?_;rw[ew]);apply HC.mono;rintro e w2 ⟨⟨v',rfl,hv⟩,hb⟩;go_wp2;go_ret;exact⟨⟨v',rfl,hv⟩,hb⟩):P:=h
theorem nc1(h:P:=by
 rcases e with e|e<;>rw[e]at hu<;>rcases baX hu (List.prefix_refl _)with e|e<;>simp at e<;>omega):P:=h
theorem naU(h:P:=by
 refine⟨h2.1,λe=>?_,λe=>?_⟩
 .have h3:=h2.2;rw[e,hd2.tag]at h3;simp at h3
 .have h3:=h2.2;rw[e,gA2]at h3;cases h3):P:=h
theorem nbU(h:P:=by
 rcases hw6 i hi with e|e
 .exact⟨(tT i e).2.1,Z! (tT i e).1 ho6.size⟩
 .exact⟨B!,e.2⟩):P:=h
theorem bcb(h:P:=by
 have n1:¬aq [2] (G0 Q):=by rw[gQ];exact aJ N!
 have n2:¬aq [2] (G0 pb):=by rw[vT.tag];exact ou I!<|aq.self _
 exact⟨hh.cell t1 n1,hh.cell t2 n1,hh.cell t3 n1,hh.cell c2 n2⟩):P:=h
theorem md6(h:P:=by
 apply O! hK (xV _ _ hs2);have HF:=A? (⟨G2,HP.Qp hq2 hs2,HS.trans<|hs2.mono λu hu=>.inr (.inr (.inl hu))⟩:bL G w pb a b sb va vb {m with s:=R.1} w2);clear hK K hq2 hs2 HT xV;refine T? ?_;go_wp2;go_ret;exact⟨rfl,HF⟩):P:=h
theorem nbh(h:P:=by
 split
 .rename_i hb;rw[G? hb]at k1;exact⟨rfl,va,vb,k1⟩
 .rename_i hb;rw[F! hb]at k1;exact⟨rfl,va,vb,k1⟩):P:=h
theorem mco(h:P:=by
 go_wp2_with(first
  |(apply bbV rfl 34 _ rfl Q rfl _ _ _ _ HB2 underlying34 rfl M?)
  |(go_at_call 35;apply rK.mono;rintro e w2 ⟨rfl,KF,KG,G2,hp2,hs2⟩;have HF:=A? (⟨G2,hp2,HS2.trans hs2⟩:bL G w pb a b sb KF KG R.1 w2);clear hp2 hs2)
  |(go_at_call 17;refine M! (xX _ _) λwm ew=>?_))
 go_ret;exact⟨rfl,KF,KG,HF⟩):P:=h
abbrev A?:=@Lib.hid
abbrev Q?:=@beq_eq_false_iff_ne
abbrev F!:=@if_neg
abbrev G?:=@if_pos
abbrev P!:=@Below.refl
abbrev X!:=@List.length_append
abbrev V!:=@List.length_cons
abbrev S!:=@Nat.zero_le
abbrev Z!:=@Nat.lt_of_lt_of_le
abbrev i!:=@Array.getElem?_eq_some_iff
abbrev W?:=@decide_eq_false
abbrev V?:=@bodyPost_ret
abbrev j!:=@World.cell?_alloc_new
abbrev c!:=@heap_alloc_last
abbrev b!:=@decide_eq_true
abbrev h!:=@block_lt_of_cell
abbrev U!:=@congrArg
abbrev u!:=@List.take_succ_eq_append_getElem
abbrev g!:=@List.length_map
abbrev Z?:=@Nat.le_trans
abbrev Y?:=@Nat.le_refl
abbrev Y!:=@Int.le_refl
abbrev a!:=@List.mem_map
abbrev y?:=@List.eq_nil_of_length_eq_zero
abbrev j?:=@List.mem_singleton
abbrev i?:=@List.map_cons
abbrev u?:=@List.take_of_length_le
abbrev k!:=@Bool.and_eq_true
abbrev k?:=@List.filter_cons
abbrev Ω:=@World.cell?_setCell_other
abbrev l!:=@List.getElem_mem
abbrev υ:=@List.setIfInBounds_toArray
abbrev l?:=@List.length_nil
abbrev X?:=@Ne.symm
abbrev x!:=@List.mem_cons_self
abbrev q!:=@List.getElem?_map
abbrev ο:=@List.getElem?_eq_getElem
abbrev w!:=@List.length_take
abbrev v!:=@List.take_length
abbrev p?:=@Option.map_some
abbrev z?:=@decide_eq_true_eq
abbrev z!:=@Bool.not_eq_true
abbrev ba1:=@List.getD_eq_getElem?_getD
abbrev baX:=@List.prefix_or_prefix_of_prefix
abbrev r!:=@List.foldl_cons
abbrev η:=@Bool.false_eq_true
abbrev n!:=@List.mem_cons
abbrev ϵ:=@Go.MapKept.run_getObj_map
abbrev ϸ:=@Classical.byContradiction
abbrev Ξ:=@List.not_mem_nil
abbrev τ:=@List.mem_cons_of_mem
abbrev ϝ:=@List.length_filter_le
abbrev baB:=@Int.tmod_eq_emod_of_nonneg
abbrev ύ:=@List.filterMap_cons
abbrev Φ:=@List.length_drop
abbrev baD:=@Array.getElem?_eq_getElem
abbrev o?:=@Int.le_trans
abbrev ϑ:=@List.set_cons_zero
abbrev ϊ:=@List.set_cons_succ
abbrev ϛ:=@List.length_pos_iff
abbrev ϐ:=@List.flatMap_cons
abbrev baA:=@List.getElem?_cons_succ
abbrev ϣ:=@List.flatMap_append
abbrev bb3:=@Array.getElem?_setIfInBounds_ne
abbrev ϋ:=@List.any_eq_true
abbrev θ:=@List.nodup_cons
abbrev ϙ:=@List.foldl_append
abbrev ϟ:=@List.filterMap_nil
abbrev ba8:=@Array.getElem?_modify
abbrev y!:=@List.map_nil
abbrev baO:=@List.getElem?_cons_zero
abbrev ό:=@List.mem_append
abbrev ν:=@strOfNums_size
abbrev baM:=@List.getElem?_toArray
abbrev baW:=@List.length_singleton
abbrev baF:=@List.drop_succ_cons
abbrev ba4:=@heap_setCell_same
abbrev Θ:=@wpStill_nil
abbrev baL:=@Option.some.inj
abbrev bcf:=@List.findIdx?_eq_some_iff_getElem
abbrev ba5:=@Option.getD_some
abbrev baP:=@List.getD_cons_zero
abbrev x?:=@Nat.mod_lt
abbrev ξ:=@Nat.zero_add
abbrev ba9:=@Value.slice.injEq
abbrev bax:=@Lib.byteCells_length
abbrev baR:=@List.filter_append
abbrev ϫ:=@IntWalk.i64_in
abbrev ϻ:=@List.map_append
abbrev bbT:=@List.drop_eq_getElem_cons
abbrev bbN:=@of_decide_eq_true
abbrev baa:=@List.append_assoc
abbrev bb7:=@List.length_mergeSort
abbrev ba6:=@run_underlying
abbrev ba2:=@List.drop_zero
abbrev bbO:=@List.length_filterMap_le
abbrev bai:=@Nat.xor_lt_two_pow
abbrev bat:=@List.getElem?_take
abbrev bbJ:=@World.cell?_of_block
abbrev ώ:=@Nat.add_mul
abbrev κ:=@beq_iff_eq
abbrev q?:=@if_false
abbrev bbF:=@Array.toList_filter
abbrev ϗ:=@Nat.le_succ
abbrev bcC:=@List.findIdx?_eq_none_iff
abbrev baf:=@Below.heap_alloc
abbrev ϒ:=@bne_iff_ne
abbrev bbp:=@List.mem_of_getElem?
abbrev baT:=@List.nodup_nil
abbrev bbK:=@List.filter_congr
abbrev bbD:=@Option.some.injEq
abbrev mba:=@Array.getElem?_setIfInBounds
abbrev baj:=@List.append_nil
abbrev bag:=@List.range_succ
abbrev bae:=@Bool.or_eq_true
abbrev bbd:=@List.map_congr_left
abbrev bbZ:=@List.take_succ_cons
abbrev bbs:=@Calls.quiet_of_same
abbrev bbq:=@List.getD_cons_succ
abbrev t!:=@if_true
abbrev bcd:=@run_convert_bytes_back
abbrev baG:=@List.map_map
abbrev baH:=@wpList_plain
abbrev baZ:=@Prod.mk.injEq
abbrev bb2:=@List.getElem_map
abbrev bcE:=@run_convert_bytes_arg
abbrev bcn:=@World.frozen?_setCell
abbrev bct:=@List.getElem?_eq_none
abbrev bb1:=@Int.emod_nonneg
abbrev bb9:=@Nat.not_lt_zero
abbrev bbP:=@List.any_eq_false
abbrev bbo:=@List.ext_getElem?
abbrev bbu:=@Int.emod_eq_of_lt
abbrev bah:=@Nat.add_assoc
abbrev bch:=@Array.length_toList
abbrev bcv:=@List.mergeSort_perm
abbrev mcg:=@Nat.le_mul_of_pos_right
abbrev mb3:=@List.drop_eq_nil_of_le
abbrev maI:=@Int.emod_lt_of_pos
abbrev bco:=@of_decide_eq_false
abbrev bbV:=@wpList_load_row
abbrev bbr:=@Bool.eq_iff_iff
abbrev mfK:=@List.prefix_append_right_inj
abbrev bbj:=@List.headD_cons
abbrev bbC:=@Nat.xor_assoc
abbrev mcG:=@ByteArray.size_append
abbrev bcc:=@List.getElem?_set
abbrev bbv:=@Bool.not_eq_true'
abbrev bby:=@IntWalk.wrap64_in
abbrev mdb:=@Nat.two_pow_add_eq_or_of_lt
abbrev mdd:=@List.getElem?_append_right
abbrev mas:=@Nat.mul_le_mul_right
abbrev mbN:=@Nat.div_lt_of_lt_mul
abbrev na8:=@Array.getElem?_append_left
abbrev mer:=@Nat.mod_two_eq_zero_or_one
abbrev mec:=@Int.tdiv_eq_ediv_of_nonneg
abbrev bbg:=@List.take_zero
abbrev bbU:=@Bool.not_true
abbrev bcr:=@Nat.div_add_mod
abbrev bcx:=@List.length_set
abbrev mdL:=@List.eraseIdx_cons_succ
abbrev bb0:=@Src.ofSlice
abbrev maR:=@List.getElem?_inj
abbrev bcz:=@Bool.not_false
abbrev bbc:=@Nat.add_zero
abbrev baE:=@or_false
abbrev mcm:=@Result.andThen_ok
abbrev bbY:=@Nat.ne_of_lt
abbrev mdp:=@List.getElem_cons_zero
abbrev mdV:=@List.filterMap_append
abbrev mgm:=@List.take_append_drop
abbrev mbW:=@beq_self_eq_true
abbrev bb5:=@info_parts
abbrev bbA:=@u32_or_nat
abbrev mb0:=@List.length_tail
abbrev bcH:=@Addr.mk.injEq
abbrev mdS:=@wpList_append_own_at
abbrev bbb:=@Nat.mul_one
abbrev mdk:=@Array.size_replicate
abbrev mdQ:=@List.getElem?_range
abbrev bcF:=@Nat.zero_mul
abbrev maH:=@Addr.add_lit
abbrev bbx:=@Nat.xor_comm
abbrev bcB:=@Sem.run_pure
abbrev bbI:=@wpOp_mono
abbrev me0:=@List.filter_filter
abbrev mcY:=@Bool.false_and
abbrev mdJ:=@grownCap_le_maxLen
abbrev mgg:=@Option.isSome_none
abbrev mdn:=@Array.ext_getElem?
abbrev na6:=@Nat.add_sub_cancel
abbrev mgk:=@wpList_append_own
abbrev bcw:=@getD_set_ne
abbrev mds:=@List.Sublist.refl
abbrev maS:=@Bool.true_and
abbrev mc6:=@List.all_cons
abbrev mcK:=@ByteArray.ext
abbrev naA:=@IntKind.wrap_i64
abbrev mdX:=@List.cons_append
abbrev mdI:=@results_cell_row
abbrev nc5:=@decide_eq_false_iff_not
abbrev maQ:=@Sem.run_bind
abbrev mdP:=@Oper.upon_value
abbrev mbV:=@Nat.one_mul
abbrev mcw:=@List.map_id
abbrev mdc:=@List.foldl_nil
abbrev mcW:=@run_makeMap
abbrev mcu:=@u32_xor_nat
abbrev mdw:=@Nat.lt_irrefl

