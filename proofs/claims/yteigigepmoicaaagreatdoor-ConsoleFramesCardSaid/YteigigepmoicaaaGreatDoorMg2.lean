/- The shelf's contracts of strings.Split and strings.Cut, laid at this translation. The shelf's contracts that the console leans on, laid at this translation. The console's hex, unhex, number: walked. Slices of values of one or many cells: read, owned, appended; worlds in which only some blocks have turned. Regions that draw: one order for all. What reads goes first; S holds behind each operation that writes. -/
import Derived.Shelf.Strings.Split
import Derived.Shelf.Strings.Cut
import Derived.Test.YteigigepmoicaaaGreatDoorRows
import Derived.Test.YteigigepmoicaaaGreatDoorMg1
import Derived.Shelf.Strings.Prefix
import Derived.Shelf.Strings.SlTrimAscii
import Derived.Shelf.Strconv.Atoi
import Derived.Shelf.Strconv.Itoa3
import Derived.Shelf.Strings.FieldsFuncAny
import Derived.Laws.BitsAllLaws
import Derived.BigQuiet
import Derived.Lib.AtoiErrMem
import Derived.Laws.AppendOwnNone
import Derived.Maps.AppendAt
import Derived.Handy
import Derived.StillTailTactics
import Derived.OrdersHeld
import Derived.RegionTactic
/-! The shelf's contracts of strings.Split and strings.Cut, laid at this translation. -/
namespace Go.Proofs.YteigigepmoicaaaGreatDoor
open Go.Shelf Go.RowKit Go.Proofs
set_option maxRecDepth 100000
def ren146 : Go.Shelf.Ren := ⟨fun | 138 => 70 | 143 => 71 | 146 => 25 | 195 => 90 | 197 => 91 | 217 => 106 | 218 => 92 | 219 => 93 | 221 => 48 | 224 => 108 | 225 => 107 | 260 => 105 | 266 => 125 | 267 => 109 | 268 => 69 | 314 => 126 | n => n, fun | 0 => 0 | 3 => 3 | 4 => 4 | 5 => 5 | 9 => 9 | 21 => 21 | 31 => 35 | 46 => 38 | 51 => 73 | 105 => 124 | 119 => 155 | 138 => 157 | 139 => 158 | 146 => 159 | n => n, fun | 1 => 0 | 3 => 1 | 4 => 2 | n => n⟩
theorem lays146 : Go.Proofs.Lays.n146 Tryz.prog ren146 := {
  mixed := by kernel_rfl
  f138 := Tryz.func70.trans (congrArg some (by kernel_rfl))
  f143 := Tryz.func71.trans (congrArg some (by kernel_rfl))
  f146 := Tryz.func25.trans (congrArg some (by kernel_rfl))
  f195 := Tryz.func90.trans (congrArg some (by kernel_rfl))
  f197 := Tryz.func91.trans (congrArg some (by kernel_rfl))
  f217 := Tryz.func106.trans (congrArg some (by kernel_rfl))
  f218 := Tryz.func92.trans (congrArg some (by kernel_rfl))
  f219 := Tryz.func93.trans (congrArg some (by kernel_rfl))
  f221 := Tryz.func48.trans (congrArg some (by kernel_rfl))
  f224 := Tryz.func108.trans (congrArg some (by kernel_rfl))
  f225 := Tryz.func107.trans (congrArg some (by kernel_rfl))
  f260 := Tryz.func105.trans (congrArg some (by kernel_rfl))
  f266 := Tryz.func125.trans (congrArg some (by kernel_rfl))
  f267 := Tryz.func109.trans (congrArg some (by kernel_rfl))
  f268 := Tryz.func69.trans (congrArg some (by kernel_rfl))
  f314 := Tryz.func126.trans (congrArg some (by kernel_rfl))
  t0 := Tryz.underlying0
  a0 := Tryz.isAgg0
  z0 := Tryz.sizeOf0
  v0 := Tryz.zeroValue0
  t3 := Tryz.underlying3
  a3 := Tryz.isAgg3
  z3 := Tryz.sizeOf3
  v3 := Tryz.zeroValue3
  t4 := Tryz.underlying4
  a4 := Tryz.isAgg4
  z4 := Tryz.sizeOf4
  v4 := Tryz.zeroValue4
  t5 := Tryz.underlying5
  a5 := Tryz.isAgg5
  z5 := Tryz.sizeOf5
  v5 := Tryz.zeroValue5
  t9 := Tryz.underlying9
  a9 := Tryz.isAgg9
  z9 := Tryz.sizeOf9
  v9 := Tryz.zeroValue9
  t21 := Tryz.underlying21
  a21 := Tryz.isAgg21
  z21 := Tryz.sizeOf21
  v21 := Tryz.zeroValue21
  t31 := Tryz.underlying35
  a31 := Tryz.isAgg35
  z31 := Tryz.sizeOf35
  v31 := Tryz.zeroValue35
  t46 := Tryz.underlying38
  a46 := Tryz.isAgg38
  z46 := Tryz.sizeOf38
  v46 := Tryz.zeroValue38
  t51 := Tryz.underlying73
  a51 := Tryz.isAgg73
  z51 := Tryz.sizeOf73
  v51 := Tryz.zeroValue73
  t105 := Tryz.underlying124
  a105 := Tryz.isAgg124
  z105 := Tryz.sizeOf124
  v105 := Tryz.zeroValue124
  t119 := Tryz.underlying155
  a119 := Tryz.isAgg155
  z119 := Tryz.sizeOf155
  t138 := Tryz.underlying157
  a138 := Tryz.isAgg157
  z138 := Tryz.sizeOf157
  v138 := Tryz.zeroValue157
  t139 := Tryz.underlying158
  a139 := Tryz.isAgg158
  z139 := Tryz.sizeOf158
  v139 := Tryz.zeroValue158
  t146 := Tryz.underlying159
  a146 := Tryz.isAgg159
  z146 := Tryz.sizeOf159
  v146 := Tryz.zeroValue159
  g1 := by kernel_rfl
  g3 := by kernel_rfl
  g4 := by kernel_rfl }
def ren145 : Go.Shelf.Ren := ⟨fun | 145 => 100 | 217 => 106 | 219 => 93 | 220 => 124 | 224 => 108 | 225 => 107 | 266 => 125 | 267 => 109 | 314 => 126 | n => n, fun | 3 => 3 | 4 => 4 | 5 => 5 | 9 => 9 | 46 => 38 | 51 => 73 | 59 => 133 | 146 => 159 | n => n, fun | 1 => 0 | n => n⟩
theorem lays145 : Go.Proofs.Lays.n145 Tryz.prog ren145 := {
  mixed := by kernel_rfl
  f145 := Tryz.func100.trans (congrArg some (by kernel_rfl))
  f217 := Tryz.func106.trans (congrArg some (by kernel_rfl))
  f219 := Tryz.func93.trans (congrArg some (by kernel_rfl))
  f220 := Tryz.func124.trans (congrArg some (by kernel_rfl))
  f224 := Tryz.func108.trans (congrArg some (by kernel_rfl))
  f225 := Tryz.func107.trans (congrArg some (by kernel_rfl))
  f266 := Tryz.func125.trans (congrArg some (by kernel_rfl))
  f267 := Tryz.func109.trans (congrArg some (by kernel_rfl))
  f314 := Tryz.func126.trans (congrArg some (by kernel_rfl))
  t3 := Tryz.underlying3
  a3 := Tryz.isAgg3
  z3 := Tryz.sizeOf3
  v3 := Tryz.zeroValue3
  t4 := Tryz.underlying4
  a4 := Tryz.isAgg4
  z4 := Tryz.sizeOf4
  v4 := Tryz.zeroValue4
  t5 := Tryz.underlying5
  a5 := Tryz.isAgg5
  z5 := Tryz.sizeOf5
  v5 := Tryz.zeroValue5
  t9 := Tryz.underlying9
  a9 := Tryz.isAgg9
  z9 := Tryz.sizeOf9
  v9 := Tryz.zeroValue9
  t46 := Tryz.underlying38
  a46 := Tryz.isAgg38
  z46 := Tryz.sizeOf38
  v46 := Tryz.zeroValue38
  t51 := Tryz.underlying73
  a51 := Tryz.isAgg73
  z51 := Tryz.sizeOf73
  v51 := Tryz.zeroValue73
  t59 := Tryz.underlying133
  a59 := Tryz.isAgg133
  z59 := Tryz.sizeOf133
  v59 := Tryz.zeroValue133
  t146 := Tryz.underlying159
  a146 := Tryz.isAgg159
  z146 := Tryz.sizeOf159
  v146 := Tryz.zeroValue159
  g1 := by kernel_rfl }
/-- the variable internal/bytealg.MaxLen holds an int -/
def MaxLenIs (w : World) (m : Int) : Prop := w.cell? ⟨0, 0, none⟩ = some (.int .i64 m)
/-- the cells of a row of texts -/
def textsRow (l : List ByteArray) : Array Value := (l.map Value.string).toArray
/-- strings.Split at one byte -/
theorem splitAt_any (s : ByteArray) (c : UInt8) (m : Int) (w : World) (hs : s.size < 4294967281) (hm : MaxLenIs w m) :
    Calls Tryz.prog 25 #[.string s, .string (bytesOf [c])] w fun e w' =>
      e = .returned (.slice (some ⟨w.heap.size, 0, none⟩) (Lib.countB s (bytesOf [c]) + 1) (Lib.countB s (bytesOf [c]) + 1)) ∧ w' = w.alloc (.cells (textsRow (Lib.splitB (bytesOf [c]) 0 (Lib.countB s (bytesOf [c])) s)) 9) :=
  Any.strings_Split lays146 (by kernel_rfl) s _ m w hs hm (by rw [bytesOf_size]; simp)
/-- strings.Cut -/
theorem cut_any (s sep : ByteArray) (m : Int) (w : World) (hs : s.size < 4294967281) (hm : MaxLenIs w m) :
    Calls Tryz.prog 100 #[.string s, .string sep] w fun e w' => e = .returned (.tuple #[.string ⟨(Lib.cut s.data.toList sep.data.toList).1.toArray⟩, .string ⟨(Lib.cut s.data.toList sep.data.toList).2.1.toArray⟩, .bool (Lib.cut s.data.toList sep.data.toList).2.2]) ∧ ∃ n, w' = w.drewN n :=
  Any.strings_Cut lays145 s sep m w hs hm
end Go.Proofs.YteigigepmoicaaaGreatDoor
/-! The shelf's contracts that the console leans on, laid at this translation. -/
namespace Go.Proofs.YteigigepmoicaaaGreatDoor
open Go.Shelf Go.RowKit Go.Proofs
set_option maxRecDepth 100000
def ren101 : Go.Shelf.Ren := ⟨fun | 101 => 95 | 206 => 132 | 208 => 114 | n => n, fun | 3 => 3 | 4 => 4 | 9 => 9 | n => n, fun  | n => n⟩
theorem lays101 : Go.Proofs.Lays.n101 Tryz.prog ren101 := {
  mixed := by kernel_rfl
  f101 := Tryz.func95.trans (congrArg some (by kernel_rfl))
  f206 := Tryz.func132.trans (congrArg some (by kernel_rfl))
  f208 := Tryz.func114.trans (congrArg some (by kernel_rfl))
  t3 := Tryz.underlying3
  a3 := Tryz.isAgg3
  z3 := Tryz.sizeOf3
  v3 := Tryz.zeroValue3
  t4 := Tryz.underlying4
  a4 := Tryz.isAgg4
  z4 := Tryz.sizeOf4
  v4 := Tryz.zeroValue4
  t9 := Tryz.underlying9
  a9 := Tryz.isAgg9
  z9 := Tryz.sizeOf9
  v9 := Tryz.zeroValue9 }
def ren160 : Go.Shelf.Ren := ⟨fun | 119 => 148 | 120 => 144 | 137 => 98 | 151 => 134 | 152 => 143 | 160 => 96 | 197 => 91 | 217 => 106 | 224 => 108 | 225 => 107 | 227 => 117 | 228 => 133 | 231 => 115 | 232 => 116 | 233 => 118 | 234 => 119 | 235 => 120 | 236 => 121 | 260 => 105 | 266 => 125 | 271 => 135 | n => n, fun | 0 => 0 | 3 => 3 | 4 => 4 | 5 => 5 | 9 => 9 | 21 => 21 | 46 => 38 | 105 => 124 | 116 => 147 | 117 => 148 | 119 => 155 | 124 => 151 | 138 => 157 | 139 => 158 | n => n, fun | 3 => 1 | 4 => 2 | n => n⟩
theorem lays160 : Go.Proofs.Lays.n160 Tryz.prog ren160 := {
  mixed := by kernel_rfl
  f119 := Tryz.func148.trans (congrArg some (by kernel_rfl))
  f120 := Tryz.func144.trans (congrArg some (by kernel_rfl))
  f137 := Tryz.func98.trans (congrArg some (by kernel_rfl))
  f151 := Tryz.func134.trans (congrArg some (by kernel_rfl))
  f152 := Tryz.func143.trans (congrArg some (by kernel_rfl))
  f160 := Tryz.func96.trans (congrArg some (by kernel_rfl))
  f197 := Tryz.func91.trans (congrArg some (by kernel_rfl))
  f217 := Tryz.func106.trans (congrArg some (by kernel_rfl))
  f224 := Tryz.func108.trans (congrArg some (by kernel_rfl))
  f225 := Tryz.func107.trans (congrArg some (by kernel_rfl))
  f227 := Tryz.func117.trans (congrArg some (by kernel_rfl))
  f228 := Tryz.func133.trans (congrArg some (by kernel_rfl))
  f231 := Tryz.func115.trans (congrArg some (by kernel_rfl))
  f232 := Tryz.func116.trans (congrArg some (by kernel_rfl))
  f233 := Tryz.func118.trans (congrArg some (by kernel_rfl))
  f234 := Tryz.func119.trans (congrArg some (by kernel_rfl))
  f235 := Tryz.func120.trans (congrArg some (by kernel_rfl))
  f236 := Tryz.func121.trans (congrArg some (by kernel_rfl))
  f260 := Tryz.func105.trans (congrArg some (by kernel_rfl))
  f266 := Tryz.func125.trans (congrArg some (by kernel_rfl))
  f271 := Tryz.func135.trans (congrArg some (by kernel_rfl))
  t0 := Tryz.underlying0
  a0 := Tryz.isAgg0
  z0 := Tryz.sizeOf0
  v0 := Tryz.zeroValue0
  t3 := Tryz.underlying3
  a3 := Tryz.isAgg3
  z3 := Tryz.sizeOf3
  v3 := Tryz.zeroValue3
  t4 := Tryz.underlying4
  a4 := Tryz.isAgg4
  z4 := Tryz.sizeOf4
  v4 := Tryz.zeroValue4
  t5 := Tryz.underlying5
  a5 := Tryz.isAgg5
  z5 := Tryz.sizeOf5
  v5 := Tryz.zeroValue5
  t9 := Tryz.underlying9
  a9 := Tryz.isAgg9
  z9 := Tryz.sizeOf9
  v9 := Tryz.zeroValue9
  t21 := Tryz.underlying21
  a21 := Tryz.isAgg21
  z21 := Tryz.sizeOf21
  v21 := Tryz.zeroValue21
  t46 := Tryz.underlying38
  a46 := Tryz.isAgg38
  z46 := Tryz.sizeOf38
  v46 := Tryz.zeroValue38
  t105 := Tryz.underlying124
  a105 := Tryz.isAgg124
  z105 := Tryz.sizeOf124
  v105 := Tryz.zeroValue124
  t116 := Tryz.underlying147
  a116 := Tryz.isAgg147
  z116 := Tryz.sizeOf147
  t117 := Tryz.underlying148
  a117 := Tryz.isAgg148
  z117 := Tryz.sizeOf148
  v117 := Tryz.zeroValue148
  t119 := Tryz.underlying155
  a119 := Tryz.isAgg155
  z119 := Tryz.sizeOf155
  t124 := Tryz.underlying151
  a124 := Tryz.isAgg151
  z124 := Tryz.sizeOf151
  v124 := Tryz.zeroValue151
  t138 := Tryz.underlying157
  a138 := Tryz.isAgg157
  z138 := Tryz.sizeOf157
  v138 := Tryz.zeroValue157
  t139 := Tryz.underlying158
  a139 := Tryz.isAgg158
  z139 := Tryz.sizeOf158
  v139 := Tryz.zeroValue158
  g3 := by kernel_rfl
  g4 := by kernel_rfl }
def ren172 : Go.Shelf.Ren := ⟨fun | 129 => 128 | 171 => 50 | 172 => 97 | 205 => 147 | 243 => 73 | 244 => 122 | 245 => 123 | 246 => 94 | 247 => 136 | 279 => 137 | 280 => 138 | 281 => 139 | 282 => 140 | 283 => 110 | 284 => 111 | 285 => 112 | 286 => 113 | 287 => 145 | 316 => 146 | 317 => 127 | 318 => 129 | 319 => 130 | 320 => 131 | 321 => 149 | 322 => 150 | 337 => 141 | 338 => 142 | n => n, fun | 0 => 0 | 2 => 2 | 3 => 3 | 4 => 4 | 5 => 5 | 9 => 9 | 20 => 20 | 21 => 21 | 37 => 27 | 46 => 38 | 51 => 73 | 53 => 72 | 75 => 57 | 76 => 58 | 80 => 61 | 85 => 168 | 127 => 90 | 143 => 183 | 145 => 185 | 167 => 167 | 168 => 170 | 171 => 140 | 173 => 143 | 175 => 175 | 210 => 178 | 212 => 162 | 213 => 163 | 232 => 180 | 233 => 181 | n => n, fun | 15 => 4 | 16 => 5 | 17 => 3 | 18 => 6 | 19 => 7 | n => n⟩
theorem lays172 : Go.Proofs.Lays.n172 Tryz.prog ren172 := {
  mixed := by kernel_rfl
  f129 := Tryz.func128.trans (congrArg some (by kernel_rfl))
  f171 := Tryz.func50.trans (congrArg some (by kernel_rfl))
  f172 := Tryz.func97.trans (congrArg some (by kernel_rfl))
  f205 := Tryz.func147.trans (congrArg some (by kernel_rfl))
  f243 := Tryz.func73.trans (congrArg some (by kernel_rfl))
  f244 := Tryz.func122.trans (congrArg some (by kernel_rfl))
  f245 := Tryz.func123.trans (congrArg some (by kernel_rfl))
  f246 := Tryz.func94.trans (congrArg some (by kernel_rfl))
  f247 := Tryz.func136.trans (congrArg some (by kernel_rfl))
  f279 := Tryz.func137.trans (congrArg some (by kernel_rfl))
  f280 := Tryz.func138.trans (congrArg some (by kernel_rfl))
  f281 := Tryz.func139.trans (congrArg some (by kernel_rfl))
  f282 := Tryz.func140.trans (congrArg some (by kernel_rfl))
  f283 := Tryz.func110.trans (congrArg some (by kernel_rfl))
  f284 := Tryz.func111.trans (congrArg some (by kernel_rfl))
  f285 := Tryz.func112.trans (congrArg some (by kernel_rfl))
  f286 := Tryz.func113.trans (congrArg some (by kernel_rfl))
  f287 := Tryz.func145.trans (congrArg some (by kernel_rfl))
  f316 := Tryz.func146.trans (congrArg some (by kernel_rfl))
  f317 := Tryz.func127.trans (congrArg some (by kernel_rfl))
  f318 := Tryz.func129.trans (congrArg some (by kernel_rfl))
  f319 := Tryz.func130.trans (congrArg some (by kernel_rfl))
  f320 := Tryz.func131.trans (congrArg some (by kernel_rfl))
  f321 := Tryz.func149.trans (congrArg some (by kernel_rfl))
  f322 := Tryz.func150.trans (congrArg some (by kernel_rfl))
  f337 := Tryz.func141.trans (congrArg some (by kernel_rfl))
  f338 := Tryz.func142.trans (congrArg some (by kernel_rfl))
  t0 := Tryz.underlying0
  a0 := Tryz.isAgg0
  z0 := Tryz.sizeOf0
  v0 := Tryz.zeroValue0
  t2 := Tryz.underlying2
  a2 := Tryz.isAgg2
  z2 := Tryz.sizeOf2
  v2 := Tryz.zeroValue2
  t3 := Tryz.underlying3
  a3 := Tryz.isAgg3
  z3 := Tryz.sizeOf3
  v3 := Tryz.zeroValue3
  t4 := Tryz.underlying4
  a4 := Tryz.isAgg4
  z4 := Tryz.sizeOf4
  v4 := Tryz.zeroValue4
  t5 := Tryz.underlying5
  a5 := Tryz.isAgg5
  z5 := Tryz.sizeOf5
  v5 := Tryz.zeroValue5
  t9 := Tryz.underlying9
  a9 := Tryz.isAgg9
  z9 := Tryz.sizeOf9
  v9 := Tryz.zeroValue9
  t20 := Tryz.underlying20
  a20 := Tryz.isAgg20
  z20 := Tryz.sizeOf20
  v20 := Tryz.zeroValue20
  t21 := Tryz.underlying21
  a21 := Tryz.isAgg21
  z21 := Tryz.sizeOf21
  v21 := Tryz.zeroValue21
  t37 := Tryz.underlying27
  a37 := Tryz.isAgg27
  z37 := Tryz.sizeOf27
  v37 := Tryz.zeroValue27
  t46 := Tryz.underlying38
  a46 := Tryz.isAgg38
  z46 := Tryz.sizeOf38
  v46 := Tryz.zeroValue38
  t51 := Tryz.underlying73
  a51 := Tryz.isAgg73
  z51 := Tryz.sizeOf73
  v51 := Tryz.zeroValue73
  t53 := Tryz.underlying72
  a53 := Tryz.isAgg72
  z53 := Tryz.sizeOf72
  v53 := Tryz.zeroValue72
  t75 := Tryz.underlying57
  a75 := Tryz.isAgg57
  z75 := Tryz.sizeOf57
  v75 := Tryz.zeroValue57
  t76 := Tryz.underlying58
  a76 := Tryz.isAgg58
  z76 := Tryz.sizeOf58
  v76 := Tryz.zeroValue58
  t85 := Tryz.underlying168
  a85 := Tryz.isAgg168
  z85 := Tryz.sizeOf168
  v85 := Tryz.zeroValue168
  t127 := Tryz.underlying90
  a127 := Tryz.isAgg90
  z127 := Tryz.sizeOf90
  v127 := Tryz.zeroValue90
  t143 := Tryz.underlying183
  a143 := Tryz.isAgg183
  z143 := Tryz.sizeOf183
  v143 := Tryz.zeroValue183
  t145 := Tryz.underlying185
  a145 := Tryz.isAgg185
  z145 := Tryz.sizeOf185
  v145 := Tryz.zeroValue185
  t167 := Tryz.underlying167
  a167 := Tryz.isAgg167
  z167 := Tryz.sizeOf167
  v167 := Tryz.zeroValue167
  t168 := Tryz.underlying170
  a168 := Tryz.isAgg170
  z168 := Tryz.sizeOf170
  v168 := Tryz.zeroValue170
  t171 := Tryz.underlying140
  a171 := Tryz.isAgg140
  z171 := Tryz.sizeOf140
  v171 := Tryz.zeroValue140
  t173 := Tryz.underlying143
  a173 := Tryz.isAgg143
  z173 := Tryz.sizeOf143
  v173 := Tryz.zeroValue143
  t175 := Tryz.underlying175
  a175 := Tryz.isAgg175
  z175 := Tryz.sizeOf175
  v175 := Tryz.zeroValue175
  t210 := Tryz.underlying178
  a210 := Tryz.isAgg178
  z210 := Tryz.sizeOf178
  v210 := Tryz.zeroValue178
  t212 := Tryz.underlying162
  a212 := Tryz.isAgg162
  z212 := Tryz.sizeOf162
  v212 := Tryz.zeroValue162
  t213 := Tryz.underlying163
  a213 := Tryz.isAgg163
  z213 := Tryz.sizeOf163
  t232 := Tryz.underlying180
  a232 := Tryz.isAgg180
  z232 := Tryz.sizeOf180
  v232 := Tryz.zeroValue180
  t233 := Tryz.underlying181
  a233 := Tryz.isAgg181
  z233 := Tryz.sizeOf181
  v233 := Tryz.zeroValue181
  g15 := by kernel_rfl
  g16 := by kernel_rfl
  g17 := by kernel_rfl
  g18 := by kernel_rfl
  g19 := by kernel_rfl }
def ren171 : Go.Shelf.Ren := ⟨fun | 129 => 128 | 171 => 50 | 243 => 73 | 246 => 94 | 283 => 110 | 284 => 111 | 285 => 112 | 286 => 113 | 317 => 127 | 318 => 129 | 319 => 130 | 320 => 131 | 337 => 141 | 338 => 142 | n => n, fun | 0 => 0 | 2 => 2 | 3 => 3 | 4 => 4 | 5 => 5 | 9 => 9 | 20 => 20 | 37 => 27 | 46 => 38 | 51 => 73 | 53 => 72 | 171 => 140 | 173 => 143 | 212 => 162 | 213 => 163 | 232 => 180 | 233 => 181 | n => n, fun | 17 => 3 | 18 => 6 | 19 => 7 | n => n⟩
theorem lays171 : Go.Proofs.LaysM.n171 Tryz.prog ren171 := {
  mixed := by kernel_rfl
  f129 := Tryz.func128.trans (congrArg some (by kernel_rfl))
  f171 := Tryz.func50.trans (congrArg some (by kernel_rfl))
  f243 := Tryz.func73.trans (congrArg some (by kernel_rfl))
  f246 := Tryz.func94.trans (congrArg some (by kernel_rfl))
  f283 := Tryz.func110.trans (congrArg some (by kernel_rfl))
  f284 := Tryz.func111.trans (congrArg some (by kernel_rfl))
  f285 := Tryz.func112.trans (congrArg some (by kernel_rfl))
  f286 := Tryz.func113.trans (congrArg some (by kernel_rfl))
  f317 := Tryz.func127.trans (congrArg some (by kernel_rfl))
  f318 := Tryz.func129.trans (congrArg some (by kernel_rfl))
  f319 := Tryz.func130.trans (congrArg some (by kernel_rfl))
  f320 := Tryz.func131.trans (congrArg some (by kernel_rfl))
  f337 := Tryz.func141.trans (congrArg some (by kernel_rfl))
  f338 := Tryz.func142.trans (congrArg some (by kernel_rfl))
  t0 := Tryz.underlying0
  a0 := Tryz.isAgg0
  z0 := Tryz.sizeOf0
  v0 := Tryz.zeroValue0
  t2 := Tryz.underlying2
  a2 := Tryz.isAgg2
  z2 := Tryz.sizeOf2
  v2 := Tryz.zeroValue2
  t3 := Tryz.underlying3
  a3 := Tryz.isAgg3
  z3 := Tryz.sizeOf3
  v3 := Tryz.zeroValue3
  t4 := Tryz.underlying4
  a4 := Tryz.isAgg4
  z4 := Tryz.sizeOf4
  v4 := Tryz.zeroValue4
  t5 := Tryz.underlying5
  a5 := Tryz.isAgg5
  z5 := Tryz.sizeOf5
  v5 := Tryz.zeroValue5
  t9 := Tryz.underlying9
  a9 := Tryz.isAgg9
  z9 := Tryz.sizeOf9
  v9 := Tryz.zeroValue9
  t20 := Tryz.underlying20
  a20 := Tryz.isAgg20
  z20 := Tryz.sizeOf20
  v20 := Tryz.zeroValue20
  t37 := Tryz.underlying27
  a37 := Tryz.isAgg27
  z37 := Tryz.sizeOf27
  v37 := Tryz.zeroValue27
  t46 := Tryz.underlying38
  a46 := Tryz.isAgg38
  z46 := Tryz.sizeOf38
  v46 := Tryz.zeroValue38
  t51 := Tryz.underlying73
  a51 := Tryz.isAgg73
  z51 := Tryz.sizeOf73
  v51 := Tryz.zeroValue73
  t53 := Tryz.underlying72
  a53 := Tryz.isAgg72
  z53 := Tryz.sizeOf72
  v53 := Tryz.zeroValue72
  t171 := Tryz.underlying140
  a171 := Tryz.isAgg140
  z171 := Tryz.sizeOf140
  v171 := Tryz.zeroValue140
  t173 := Tryz.underlying143
  a173 := Tryz.isAgg143
  z173 := Tryz.sizeOf143
  v173 := Tryz.zeroValue143
  t212 := Tryz.underlying162
  a212 := Tryz.isAgg162
  z212 := Tryz.sizeOf162
  v212 := Tryz.zeroValue162
  t213 := Tryz.underlying163
  a213 := Tryz.isAgg163
  z213 := Tryz.sizeOf163
  t232 := Tryz.underlying180
  a232 := Tryz.isAgg180
  z232 := Tryz.sizeOf180
  v232 := Tryz.zeroValue180
  t233 := Tryz.underlying181
  a233 := Tryz.isAgg181
  z233 := Tryz.sizeOf181
  v233 := Tryz.zeroValue181
  g17 := by kernel_rfl
  g18 := by kernel_rfl
  g19 := by kernel_rfl
  i0 := by kernel_rfl
  i2 := by kernel_rfl
  i3 := by kernel_rfl
  i4 := by kernel_rfl
  i5 := by kernel_rfl
  i9 := by kernel_rfl
  i20 := by kernel_rfl
  i37 := by kernel_rfl
  i46 := by kernel_rfl
  i51 := by kernel_rfl
  i53 := by kernel_rfl
  i171 := by kernel_rfl
  i173 := by kernel_rfl
  i212 := by kernel_rfl
  i232 := by kernel_rfl
  i233 := by kernel_rfl
  m17 := by kernel_rfl
  m18 := by kernel_rfl
  m19 := by kernel_rfl }
def ren229 : Go.Shelf.Ren := ⟨fun | 229 => 26 | n => n, fun | 0 => 0 | 3 => 3 | 4 => 4 | 9 => 9 | 21 => 21 | 31 => 35 | 40 => 55 | 152 => 84 | 154 => 86 | n => n, fun  | n => n⟩
theorem lays229 : Go.Proofs.Lays.n229 Tryz.prog ren229 := {
  mixed := by kernel_rfl
  f229 := Tryz.func26.trans (congrArg some (by kernel_rfl))
  t0 := Tryz.underlying0
  a0 := Tryz.isAgg0
  z0 := Tryz.sizeOf0
  v0 := Tryz.zeroValue0
  t3 := Tryz.underlying3
  a3 := Tryz.isAgg3
  z3 := Tryz.sizeOf3
  v3 := Tryz.zeroValue3
  t4 := Tryz.underlying4
  a4 := Tryz.isAgg4
  z4 := Tryz.sizeOf4
  v4 := Tryz.zeroValue4
  t9 := Tryz.underlying9
  a9 := Tryz.isAgg9
  z9 := Tryz.sizeOf9
  v9 := Tryz.zeroValue9
  t21 := Tryz.underlying21
  a21 := Tryz.isAgg21
  z21 := Tryz.sizeOf21
  v21 := Tryz.zeroValue21
  t31 := Tryz.underlying35
  a31 := Tryz.isAgg35
  z31 := Tryz.sizeOf35
  v31 := Tryz.zeroValue35
  t40 := Tryz.underlying55
  a40 := Tryz.isAgg55
  z40 := Tryz.sizeOf55
  v40 := Tryz.zeroValue55
  t152 := Tryz.underlying84
  a152 := Tryz.isAgg84
  z152 := Tryz.sizeOf84
  v152 := Tryz.zeroValue84
  t154 := Tryz.underlying86
  a154 := Tryz.isAgg86
  z154 := Tryz.sizeOf86
  v154 := Tryz.zeroValue86 }
def ren166 : Go.Shelf.Ren := ⟨fun | 166 => 28 | 240 => 49 | 276 => 72 | n => n, fun | 0 => 0 | 3 => 3 | 4 => 4 | 5 => 5 | 9 => 9 | 20 => 20 | 37 => 27 | 70 => 50 | 72 => 52 | 75 => 57 | 80 => 61 | 164 => 108 | n => n, fun  | n => n⟩
theorem lays166 : Go.Proofs.Lays.n166 Tryz.prog ren166 := {
  mixed := by kernel_rfl
  f166 := Tryz.func28.trans (congrArg some (by kernel_rfl))
  f240 := Tryz.func49.trans (congrArg some (by kernel_rfl))
  f276 := Tryz.func72.trans (congrArg some (by kernel_rfl))
  t0 := Tryz.underlying0
  a0 := Tryz.isAgg0
  z0 := Tryz.sizeOf0
  v0 := Tryz.zeroValue0
  t3 := Tryz.underlying3
  a3 := Tryz.isAgg3
  z3 := Tryz.sizeOf3
  v3 := Tryz.zeroValue3
  t4 := Tryz.underlying4
  a4 := Tryz.isAgg4
  z4 := Tryz.sizeOf4
  v4 := Tryz.zeroValue4
  t9 := Tryz.underlying9
  a9 := Tryz.isAgg9
  z9 := Tryz.sizeOf9
  v9 := Tryz.zeroValue9
  t20 := Tryz.underlying20
  a20 := Tryz.isAgg20
  z20 := Tryz.sizeOf20
  v20 := Tryz.zeroValue20
  t37 := Tryz.underlying27
  a37 := Tryz.isAgg27
  z37 := Tryz.sizeOf27
  v37 := Tryz.zeroValue27
  t70 := Tryz.underlying50
  a70 := Tryz.isAgg50
  z70 := Tryz.sizeOf50
  v70 := Tryz.zeroValue50
  t72 := Tryz.underlying52
  a72 := Tryz.isAgg52
  z72 := Tryz.sizeOf52
  v72 := Tryz.zeroValue52
  t75 := Tryz.underlying57
  a75 := Tryz.isAgg57
  z75 := Tryz.sizeOf57
  v75 := Tryz.zeroValue57
  t164 := Tryz.underlying108
  a164 := Tryz.isAgg108
  z164 := Tryz.sizeOf108
  v164 := Tryz.zeroValue108 }
theorem bx166 : Go.Proofs.Builder.Extra Tryz.prog ren166 := {
  sizeBuilder := by kernel_rfl
  liesBuilder := by kernel_rfl
  t5 := Tryz.underlying5
  a5 := Tryz.isAgg5
  z5 := Tryz.sizeOf5
  v5 := Tryz.zeroValue5
  infoByte := by kernel_rfl
  cellsByte := by kernel_rfl
  sizeByte := by kernel_rfl
  neB5 := by decide }
/-- a Builder that reads as l -/
def BuildAt (B b : Nat) (l : List UInt8) (w : World) : Prop := Lib.IsBuilder 52 5 B b (Lib.byteCells l) w
theorem strCells_eq (s : ByteArray) : Lib.strCells s = Lib.byteCells s.data.toList := rfl
/-- a Builder's WriteString -/
theorem writeString (B b : Nat) (l : List UInt8) (s : ByteArray) (w : World) (h : BuildAt B b l w) (hlen : l.length + s.size ≤ 140737488355328) (hBw : B ≤ w.heap.size) :
    Calls Tryz.prog 28 #[.pointer (some ⟨b, 0, none⟩), .string s] w fun e w' => e = .returned (.tuple #[.int .i64 s.size, .nilIface]) ∧ BuildAt B b (l ++ s.data.toList) w' ∧ Below B w w' := by
  refine (Any.Builder_WriteString lays166 bx166 B b (Lib.byteCells l) s w h (by rw [Lib.byteCells_length]; exact hlen) hBw).mono fun e w' ⟨he, hb, hl⟩ => ⟨he, .inr ?_, hl⟩
  have e1 : Lib.byteCells (l ++ s.data.toList) = Lib.byteCells l ++ Lib.strCells s := by rw [strCells_eq]; simp [Lib.byteCells]
  rw [e1]; exact hb
theorem BuildAt.lt {B b : Nat} {l : List UInt8} {w : World} (h : BuildAt B b l w) : b < w.heap.size := by
  rcases h with h | h <;> exact Lib.BuilderAt.lt h
/-- a Builder that was just made -/
theorem BuildAt.new {B b : Nat} {w : World} (hB : B ≤ b) (h : w.heap[b]? = some (.cells #[.pointer none, .slice none 0 0] 52 (0, 0))) : BuildAt B b [] w :=
  .inl ⟨hB, .slice none 0 0, h, ⟨rfl, .inl ⟨rfl, rfl⟩⟩, by simp [Value.ownBlock]⟩
/-- blocks below b, and those that were made later, may turn -/
theorem BuildAt.below {B b : Nat} {l : List UInt8} {w w' : World} (h : BuildAt B b l w) (hb : Below w.heap.size w w') : BuildAt B b l w' := by
  have key : ∀ p, Lib.BuilderAt 52 5 B b p (Lib.byteCells l) w → Lib.BuilderAt 52 5 B b p (Lib.byteCells l) w' := by
    rintro p ⟨h1, v, h2, h3, h4⟩
    refine ⟨h1, v, ?_, ⟨h3.1, ?_⟩, h4⟩
    · rw [hb.block b (Array.getElem?_eq_some_iff.1 h2).1]; exact h2
    · rcases h3.2 with h5 | ⟨g, cap, cur, hv, hg, hh, r⟩
      · exact .inl h5
      · exact .inr ⟨g, cap, cur, hv, hg, (hb.block g (Array.getElem?_eq_some_iff.1 hh).1).trans hh, r⟩
  rcases h with h | h
  · exact .inl (key _ h)
  · exact .inr (key _ h)
/-- a Builder's WriteByte -/
theorem writeByteAt (B b : Nat) (l : List UInt8) (c : UInt8) (w : World) (h : BuildAt B b l w) (hlen : l.length + 1 ≤ 140737488355328) (hBw : B ≤ w.heap.size) :
    Calls Tryz.prog 81 #[.pointer (some ⟨b, 0, none⟩), .int .u8 c.toNat] w fun e w' => e = .returned .nilIface ∧ BuildAt B b (l ++ [c]) w' ∧ Below B w w' := by
  refine (Any.Builder_WriteByte lays167 bx167 B b (Lib.byteCells l) c.toNat w h (by rw [Lib.byteCells_length]; exact hlen) hBw).mono fun e w' ⟨he, hb, hl⟩ => ⟨he, .inr ?_, hl⟩
  have e1 : Lib.byteCells (l ++ [c]) = Lib.byteCells l ++ [.int .u8 c.toNat] := by simp [Lib.byteCells]
  rw [e1]; exact hb
theorem builderStringAt (B b : Nat) (l : List UInt8) (w : World) (h : BuildAt B b l w) (hBw : B ≤ w.heap.size) :
    Calls Tryz.prog 30 #[.pointer (some ⟨b, 0, none⟩)] w fun e w' => e = .returned (.string (bytesOf l)) ∧ Below B w w' := Any.Builder_String_any lays169 bx169 B b l w h hBw
end Go.Proofs.YteigigepmoicaaaGreatDoor
/-! The console's hex, unhex, number: walked. -/
namespace Go.Proofs.YteigigepmoicaaaGreatDoor
open Go.RowKit
set_option linter.unusedVariables false
set_option linter.unusedSimpArgs false
theorem hexL_snoc (l : List UInt8) (c : UInt8) : hexL (l ++ [c]) = hexL l ++ [hexd (c.toNat / 16)] ++ [hexd (c.toNat % 16)] := by simp [hexL]
theorem hexL_length (l : List UInt8) : (hexL l).length = 2 * l.length := by
  induction l with
  | nil => rfl
  | cons c l ih =>
    rw [show hexL (c :: l) = hexd (c.toNat / 16) :: hexd (c.toNat % 16) :: hexL l from rfl, List.length_cons, List.length_cons, ih, List.length_cons]
    omega
theorem digs_at : ∀ n : Fin 16, ((⟨#[48, 49, 50, 51, 52, 53, 54, 55, 56, 57, 97, 98, 99, 100, 101, 102]⟩ : ByteArray)[n.val]'(n.isLt)) = hexd n.val := by decide +kernel
theorem digs_nat (n : Nat) (h : n < (⟨#[48, 49, 50, 51, 52, 53, 54, 55, 56, 57, 97, 98, 99, 100, 101, 102]⟩ : ByteArray).size) : (⟨#[48, 49, 50, 51, 52, 53, 54, 55, 56, 57, 97, 98, 99, 100, 101, 102]⟩ : ByteArray)[n].toNat = (hexd n).toNat := congrArg UInt8.toNat (digs_at ⟨n, h⟩)
theorem take_snoc (s : ByteArray) (k : Nat) (h : k < s.size) : s.data.toList.take (k + 1) = s.data.toList.take k ++ [s[k]] := by
  rw [List.take_succ_eq_append_getElem (by simpa using h)]; rfl
set_option maxHeartbeats 1000000 in
theorem chex_any (s : ByteArray) (w : World) (hs : 2 * s.size ≤ 140737488355328) :
    Calls Tryz.prog 62 #[.string s] w fun e w' => e = .returned (.string (bytesOf (hexM s.data.toList))) ∧ Below w.heap.size w w' := by
  by_cases h0 : s = ⟨#[]⟩
  · subst h0
    go_enter Tryz.func62, Tryz.ntmps62
    go_wp2_with fail
    go_ret
    exact ⟨rfl, Below.refl _ _⟩
  · have hne : s.toList.isEmpty = false := by
      rw [ba_toList]
      cases h : s.data.toList with
      | nil => exact absurd (congrArg ByteArray.mk (Array.toList_eq_nil_iff.1 h)) h0
      | cons c l => rfl
    have hx : hexM s.data.toList = hexL s.data.toList := by
      unfold hexM
      rw [if_neg]
      intro e
      apply h0
      cases s with
      | mk d =>
        simp only [List.isEmpty_iff, Array.toList_eq_nil_iff] at e
        rw [e]
    have HX := Lib.hid hx
    clear hx h0
    have hfr : BuildAt w.heap.size w.heap.size [] (w.alloc (.cells #[.pointer none, .slice none 0 0] 52)) := Lib.fresh_isBuilder _ _ w
    have hbl : Below w.heap.size w (w.alloc (.cells #[.pointer none, .slice none 0 0] 52)) := allocB (Below.refl _ _) _
    go_enter Tryz.func62, Tryz.ntmps62
    go_wp2_with fail
    go_loopw [9] (fun i wr => ∃ k : Nat, k ≤ s.size ∧ i = .int .i64 k ∧ BuildAt w.heap.size w.heap.size (hexL (s.data.toList.take k)) wr ∧ Below w.heap.size w wr) (fun i _ => s.size - (intOf i).toNat)
    case atStart => exact ⟨0, Nat.zero_le _, rfl, hfr, hbl⟩
    case round =>
      clear hfr hbl
      obtain ⟨k, hk, rfl, hib, hbl⟩ := hrel
      have hlen : (hexL (s.data.toList.take k)).length ≤ 2 * k := by
        rw [hexL_length, List.length_take]
        omega
      by_cases hlt : k < s.size
      · have hsz := hbl.size
        have Hst := Lib.hid (take_snoc s k hlt)
        have hlt2 := s[k].toNat_lt
        go_wp2_with fail
        rw [digs_nat]
        refine (writeByteAt w.heap.size w.heap.size _ _ _ hib (by omega) hsz).mono ?_
        rintro e w2 ⟨rfl, hib2, hbl2⟩
        have hsz2 := hbl2.size
        go_wp2_with fail
        rw [digs_nat]
        refine (writeByteAt w.heap.size w.heap.size _ _ _ hib2 (by rw [List.length_append]; simp; omega) (by omega)).mono ?_
        rintro e w3 ⟨rfl, hib3, hbl3⟩
        go_wp2_with fail
        go_roundw
        case rel =>
          refine ⟨k + 1, by omega, by go_num, ?_, (hbl.trans hbl2).trans hbl3⟩
          rw [Hst.out, hexL_snoc]; exact hib3
        case measure => simp [intOf]; omega
      · obtain rfl : k = s.size := by omega
        have hsz := hbl.size
        have e : s.data.toList.take s.size = s.data.toList := List.take_of_length_le (by simp)
        rw [e] at hib
        clear e
        go_wp2_with fail
        refine (builderStringAt w.heap.size w.heap.size _ _ hib hsz).mono ?_
        rintro e w1 ⟨rfl, hb1⟩
        go_wp2_with fail
        go_ret
        exact ⟨by rw [HX.out]; rfl, hbl.trans hb1⟩
/-! ### number -/
theorem trimMinus (s : ByteArray) (w : World) :
    Calls Tryz.prog 95 #[.string s, .string ⟨#[45]⟩] w fun e w' => e = .returned (.string (bytesOf (unsign s.data.toList))) ∧ w' = w := by
  refine (Any.strings_TrimPrefix lays101 s ⟨#[45]⟩ w).mono ?_
  rintro e w' ⟨rfl, rfl⟩
  refine ⟨?_, rfl⟩
  rw [show ((⟨#[45]⟩ : ByteArray).data.toList) = [45] from rfl, unsign_eq]
  rfl
theorem trimDigits (s : ByteArray) (w : World) (hs : s.size ≤ 9223372036854775807) :
    Calls Tryz.prog 96 #[.string s, .string ⟨#[48, 49, 50, 51, 52, 53, 54, 55, 56, 57]⟩] w fun e w' => e = .returned (.string (bytesOf (Lib.trimS s.data.toList digitsB))) ∧ Below w.heap.size w w' :=
  Any.strings_Trim_laid lays160 (by kernel_rfl) s _ w hs (by decide) (ascii_of_all (by decide))
theorem empty_list (l : List UInt8) : (bytesOf l).toList.isEmpty = l.isEmpty := by rw [ba_toList]; rfl
theorem atoiNum (s : ByteArray) (v : Int) (w : World) (hl : s.size ≤ 18) (h : Lib.atoi s.data.toList = some v) :
    Calls Tryz.prog 97 #[.string s] w fun e w' => e = .returned (.tuple #[.int .i64 v, .nilIface]) ∧ Below w.heap.size w w' := by
  refine (Any.strconv_Atoi lays172 s v hl h w).mono ?_
  rintro e w' ⟨rfl, t, rfl⟩
  exact ⟨rfl, Lib.bytesWorld_below _ _ _⟩
theorem unsign_length (l : List UInt8) : l.length ≤ (unsign l).length + 1 ∧ (unsign l).length ≤ l.length := by
  unfold unsign
  split
  · rw [List.length_drop]; omega
  · omega
set_option maxHeartbeats 1000000 in
theorem number_any (s : ByteArray) (w : World) (hs : s.size ≤ 9223372036854775807) :
    Calls Tryz.prog 74 #[.string s] w fun e w' => ∃ x, e = .returned (.tuple #[.int .i64 x, .bool (numM s.data.toList).isSome]) ∧ (∀ v, numM s.data.toList = some v → x = v) ∧ Below w.heap.size w w' := by
  obtain ⟨u, hu⟩ : ∃ u, unsign s.data.toList = u := ⟨_, rfl⟩
  have hul := unsign_length s.data.toList
  have hat := atoi_num s.data.toList
  have hnm : numM s.data.toList = if 1 ≤ u.length ∧ u.length ≤ 10 ∧ u.all digB = true then some (if s.data.toList.head? = some 45 then -(decVal 0 u : Int) else (decVal 0 u : Int)) else none := by unfold numM; rw [hu]
  have htm := trimMinus s
  rw [hu] at htm hul hat
  rw [len_toList] at hul
  have hus : (bytesOf u).size = u.length := bytesOf_size u
  by_cases h1 : u = []
  · have e0 : (bytesOf u).toList.isEmpty = true := by rw [empty_list, h1]; rfl
    have HN : Hid (numM s.data.toList = none) := Lib.hid (by rw [hnm, if_neg (by rw [h1]; simp)])
    clear h1 hnm hat hu
    go_enter Tryz.func74, Tryz.ntmps74
    go_wp2_with (go_at_call 95; refine (htm _).mono ?_; rintro e w' ⟨rfl, rfl⟩)
    go_ret2
    exact ⟨0, by rw [HN.out]; rfl, fun v h => (by rw [HN.out] at h; cases h), Below.refl _ _⟩
  · have e0 : (bytesOf u).toList.isEmpty = false := by rw [empty_list]; cases u with
      | nil => exact absurd rfl h1
      | cons c r => rfl
    have h1' : 1 ≤ u.length := List.length_pos_iff.2 h1
    by_cases h2 : 10 < u.length
    · have HN : Hid (numM s.data.toList = none) := Lib.hid (by rw [hnm, if_neg (by omega)])
      have e2 : (10 : Int) < (bytesOf u).size := by rw [hus]; omega
      clear h1 hnm hat hu
      go_enter Tryz.func74, Tryz.ntmps74
      go_wp2_with (go_at_call 95; refine (htm _).mono ?_; rintro e w' ⟨rfl, rfl⟩)
      go_ret2
      exact ⟨0, by rw [HN.out]; rfl, fun v h => (by rw [HN.out] at h; cases h), Below.refl _ _⟩
    · have e2 : ¬ (10 : Int) < (bytesOf u).size := by rw [hus]; omega
      have htd := fun w => trimDigits (bytesOf u) w (by rw [hus]; omega)
      have hx : (bytesOf u).data.toList = u := rfl
      rw [hx] at htd
      by_cases h3 : u.all digB = true
      · have e3 : (bytesOf (Lib.trimS u digitsB)).toList.isEmpty = true := by rw [empty_list, (trim_digits u).2 h3]; rfl
        have hat2 := hat h1' h3
        obtain ⟨v, hv⟩ : ∃ v : Int, (if s.data.toList.head? = some 45 then -(decVal 0 u : Int) else (decVal 0 u : Int)) = v := ⟨_, rfl⟩
        rw [hv] at hat2 hnm
        have HN : Hid (numM s.data.toList = some v) := Lib.hid (by rw [hnm, if_pos ⟨h1', by omega, h3⟩])
        have hac := fun w => atoiNum s v w (by omega) hat2
        clear h1 hnm hat hu hv hat2 h3 hx
        go_enter Tryz.func74, Tryz.ntmps74
        go_wp2_with (first
          | (go_at_call 95; refine (htm _).mono ?_; rintro e w' ⟨rfl, rfl⟩)
          | (go_at_call 96; refine (htd _).mono ?_; rintro e w2 ⟨rfl, hb2⟩)
          | (go_at_call 97; refine (hac _).mono ?_; rintro e w3 ⟨rfl, hb3⟩))
        go_quiet (fail)
        have hB3 := seqB hb2 hb3
        have hbn : Below w'.heap.size w' (w3.drewN nq) := ⟨hB3.os, hB3.tape, hB3.output, hB3.size, hB3.block⟩
        go_wp2_with fail
        go_ret2
        exact ⟨v, by rw [HN.out]; rfl, fun v' h => (by rw [HN.out] at h; exact Option.some.inj h), hbn⟩
      · have e3 : (bytesOf (Lib.trimS u digitsB)).toList.isEmpty = false := by
          rw [empty_list]
          cases hq : Lib.trimS u digitsB with
          | nil => exact absurd ((trim_digits u).1 hq) h3
          | cons c r => rfl
        have HN : Hid (numM s.data.toList = none) := Lib.hid (by rw [hnm, if_neg (by rintro ⟨_, _, h⟩; exact h3 h)])
        clear h1 hnm hat hu h3 hx
        go_enter Tryz.func74, Tryz.ntmps74
        go_wp2_with (first
          | (go_at_call 95; refine (htm _).mono ?_; rintro e w' ⟨rfl, rfl⟩)
          | (go_at_call 96; refine (htd _).mono ?_; rintro e w2 ⟨rfl, hb2⟩))
        go_ret2
        exact ⟨0, by rw [HN.out]; rfl, fun v h => (by rw [HN.out] at h; cases h), hb2⟩
end Go.Proofs.YteigigepmoicaaaGreatDoor
/-! Slices of values of one or many cells: read, owned, appended; worlds in which only some blocks have turned. -/
namespace Go.Proofs.YteigigepmoicaaaGreatDoor
open Go.RowKit
set_option linter.unusedVariables false
/-- nothing has turned but blocks of S -/
structure Only (S : Nat → Prop) (w w' : World) : Prop where
  os : w'.os = w.os
  tape : w'.tape = w.tape
  output : w'.output = w.output
  size : w.heap.size ≤ w'.heap.size
  block : ∀ k, k < w.heap.size → ¬ S k → w'.heap[k]? = w.heap[k]?
section
variable {S T : Nat → Prop} {w w1 w2 : World}
theorem Only.refl (S : Nat → Prop) (w : World) : Only S w w := ⟨rfl, rfl, rfl, Nat.le_refl _, fun _ _ _ => rfl⟩
theorem Only.trans (h : Only S w w1) (k : Only S w1 w2) : Only S w w2 :=
  ⟨k.os.trans h.os, k.tape.trans h.tape, k.output.trans h.output, Nat.le_trans h.size k.size, fun i hi hn => (k.block i (Nat.lt_of_lt_of_le hi h.size) hn).trans (h.block i hi hn)⟩
theorem Only.mono (h : Only S w w1) (hs : ∀ k, k < w.heap.size → S k → T k) : Only T w w1 := ⟨h.os, h.tape, h.output, h.size, fun k hk hn => h.block k hk fun e => hn (hs k hk e)⟩
theorem Only.ofBelow (h : Below w.heap.size w w1) : Only S w w1 := ⟨h.os, h.tape, h.output, h.size, fun k hk _ => h.block k hk⟩
theorem Only.below (h : Only S w w1) {B : Nat} (hB : B ≤ w.heap.size) (hs : ∀ k, S k → B ≤ k) : Below B w w1 :=
  ⟨h.os, h.tape, h.output, h.size, fun k hk => h.block k (by omega) fun e => by have := hs k e; omega⟩
/-- a step that turns nothing of what was there when it began -/
theorem Only.then (h : Only S w w1) (k : Below w1.heap.size w1 w2) : Only S w w2 := h.trans (Only.ofBelow k)
/-- a step whose blocks are of S, or were not there at the beginning -/
theorem Only.and (h : Only S w w1) (k : Only T w1 w2) (hs : ∀ i, T i → S i ∨ w.heap.size ≤ i) : Only S w w2 :=
  ⟨k.os.trans h.os, k.tape.trans h.tape, k.output.trans h.output, Nat.le_trans h.size k.size, fun i hi hn =>
    (k.block i (Nat.lt_of_lt_of_le hi h.size) (fun e => by rcases hs i e with h | h; exact hn h; omega)).trans (h.block i hi hn)⟩
theorem Only.alloc (h : Only S w w1) (o : Obj) : Only S w (w1.alloc o) := h.then ((Below.refl _ _).alloc (Nat.le_refl _) o)
theorem Only.drew (h : Only S w w1) : Only S w w1.drew := h.then (Below.refl _ _).drew
theorem Only.set (h : Only S w w1) {a : Addr} (ha : S a.block ∨ w.heap.size ≤ a.block) (x : Value) : Only S w (w1.setCell a x) :=
  ⟨h.os, h.tape, h.output, by simpa [World.setCell] using h.size, fun k hk hn => by
    rw [Below.heap_setCell _ _ _ _ (fun e => by subst e; rcases ha with h | h; exact hn h; omega)]
    exact h.block k hk hn⟩
theorem Only.cell (h : Only S w w1) {a : Addr} {v : Value} (hc : w.cell? a = some v) (hn : ¬ S a.block) : w1.cell? a = some v :=
  (World.cell?_of_block (h.block a.block (block_lt_of_cell hc) hn)).trans hc
theorem Only.heap (h : Only S w w1) {k : Nat} {o : Obj} (hk : w.heap[k]? = some o) (hn : ¬ S k) : w1.heap[k]? = some o :=
  (h.block k (Array.getElem?_eq_some_iff.1 hk).1 hn).trans hk
end
theorem below_of {w w' : World} (h : Below w.heap.size w w') {k : Nat} {o : Obj} (hk : w.heap[k]? = some o) : w'.heap[k]? = some o :=
  (h.block k (Array.getElem?_eq_some_iff.1 hk).1).trans hk
/-- an element type of slices, and how its values are read -/
structure Elem (P : Program) (α : Type) where
  tS : TypeId
  tE : TypeId
  size : Nat
  bytes : Nat
  z : Value
  enc : α → List Value
  und : P.underlying tS = some (.slice tE)
  info : (P.info? tE).map (fun i => (i.zero, i.size, i.bytes)) = some (some z, size, bytes)
  zs : z.cells.size = size
  len : ∀ a, (enc a).length = size
  one : ∀ a, ∀ u ∈ enc a, u.oneCell' = true
  pos : 0 < size
section
variable {P : Program} {α : Type} (E : Elem P α)
theorem Elem.length (l : List α) : (l.flatMap E.enc).length = l.length * E.size := by
  induction l with
  | nil => simp
  | cons a l ih => rw [List.flatMap_cons, List.length_append, ih, E.len, List.length_cons, Nat.add_mul]; omega
theorem Elem.at (l : List α) : ∀ j (h : j < l.length) i, i < E.size → (l.flatMap E.enc)[j * E.size + i]? = (E.enc l[j])[i]? := by
  induction l with
  | nil => intro j h; simp at h
  | cons a l ih =>
    intro j h i hi
    rw [List.flatMap_cons]
    cases j with
    | zero => rw [Nat.zero_mul, Nat.zero_add, List.getElem?_append_left (by rw [E.len]; exact hi)]; rfl
    | succ j =>
      rw [List.getElem?_append_right (by rw [E.len, Nat.add_mul]; omega), E.len]
      have e : (j + 1) * E.size + i - E.size = j * E.size + i := by rw [Nat.add_mul]; omega
      rw [e]
      exact ih j (by simpa using h) i hi
theorem Elem.one' (l : List α) : ∀ u ∈ l.flatMap E.enc, u.oneCell' = true := by
  intro u hu
  obtain ⟨a, _, h⟩ := List.mem_flatMap.1 hu
  exact E.one a u h
/-- v is a slice that reads as l -/
def SeqAt (w : World) (v : Value) (l : List α) : Prop :=
  (l = [] ∧ v = .slice none 0 0) ∨ ∃ g o c, v = .slice (some ⟨g, o, none⟩) l.length c ∧ l.length ≤ c ∧ c ≤ maxLen ∧ g < w.heap.size ∧ ∀ j (h : j < l.length) i, i < E.size → w.cell? ⟨g, o + j * E.size + i, none⟩ = (E.enc l[j])[i]?
/-- v is a slice of the call's own (nil, or from block base on), that reads as l -/
def OwnE (w : World) (base : Nat) (v : Value) (l : List α) : Prop := w.ownsRow base E.tE E.size v l.length (l.flatMap E.enc)
variable {E} {w w' : World} {v : Value} {l : List α} {bs : Nat}
theorem SeqAt.nil (E : Elem P α) (w : World) : SeqAt E w (.slice none 0 0) [] := .inl ⟨rfl, rfl⟩
theorem SeqAt.lt (h : SeqAt E w v l) : ∀ k, v.ownBlock = some k → k < w.heap.size := by
  intro k hk
  rcases h with ⟨_, rfl⟩ | ⟨g, o, c, rfl, _, _, hg, _⟩
  · cases hk
  · cases hk; exact hg
theorem SeqAt.only {S : Nat → Prop} (h : SeqAt E w v l) (ho : Only S w w') (hn : ∀ k, v.ownBlock = some k → ¬ S k) : SeqAt E w' v l := by
  rcases h with h | ⟨g, o, c, rfl, h1, h2, hg, hc⟩
  · exact .inl h
  · refine .inr ⟨g, o, c, rfl, h1, h2, Nat.lt_of_lt_of_le hg ho.size, fun j hj i hi => ?_⟩
    rw [← hc j hj i hi]
    exact World.cell?_of_block (ho.block g hg (hn g rfl))
theorem SeqAt.below (h : SeqAt E w v l) (hb : Below w.heap.size w w') : SeqAt E w' v l := h.only (S := fun _ => False) (Only.ofBelow hb) (fun _ _ h => h)
theorem SeqAt.form (h : SeqAt E w v l) : ∃ a c, v = .slice a l.length c ∧ l.length ≤ c ∧ c ≤ maxLen := by
  rcases h with ⟨rfl, rfl⟩ | ⟨g, o, c, rfl, h1, h2, _⟩
  · exact ⟨none, 0, rfl, Nat.le_refl _, Nat.zero_le _⟩
  · exact ⟨_, c, rfl, h1, h2⟩
theorem SeqAt.le (h : SeqAt E w v l) : l.length ≤ 9223372036854775807 := by
  obtain ⟨a, c, _, h1, h2⟩ := h.form
  unfold maxLen at h2; omega
theorem OwnE.nil (E : Elem P α) (w : World) (b0 : Nat) : OwnE E w b0 (.slice none 0 0) [] := ⟨by simp, .inl ⟨rfl, rfl⟩⟩
theorem OwnE.block (h : OwnE E w bs v l) : ∀ k, v.ownBlock = some k → bs ≤ k := by
  intro k hk
  rcases h.2 with ⟨rfl, _⟩ | ⟨g, cap, cur, rfl, hg, _⟩
  · cases hk
  · cases hk; exact hg
theorem OwnE.lt (h : OwnE E w bs v l) : ∀ k, v.ownBlock = some k → k < w.heap.size := by
  intro k hk
  rcases h.2 with ⟨rfl, _⟩ | ⟨g, cap, cur, rfl, hg, hh, _⟩
  · cases hk
  · cases hk; exact (Array.getElem?_eq_some_iff.1 hh).1
theorem OwnE.only {S : Nat → Prop} (h : OwnE E w bs v l) (ho : Only S w w') (hn : ∀ k, v.ownBlock = some k → ¬ S k) : OwnE E w' bs v l := by
  refine ⟨h.1, ?_⟩
  rcases h.2 with h2 | ⟨g, cap, cur, rfl, hg, hh, r⟩
  · exact .inl h2
  · exact .inr ⟨g, cap, cur, rfl, hg, ho.heap hh (hn g rfl), r⟩
theorem OwnE.below (h : OwnE E w bs v l) (hb : Below w.heap.size w w') : OwnE E w' bs v l := h.only (S := fun _ => False) (Only.ofBelow hb) (fun _ _ h => h)
theorem OwnE.base {b' : Nat} (h : OwnE E w bs v l) (hb : b' ≤ bs) : OwnE E w b' v l := by
  refine ⟨h.1, ?_⟩
  rcases h.2 with h2 | ⟨g, cap, cur, hv, hg, r⟩
  · exact .inl h2
  · exact .inr ⟨g, cap, cur, hv, by omega, r⟩
theorem OwnE.at (h : OwnE E w bs v l) : SeqAt E w v l := by
  rcases h.2 with ⟨rfl, h0⟩ | ⟨g, cap, cur, rfl, hg, hh, hn, hm, hs, ht⟩
  · exact .inl ⟨List.eq_nil_of_length_eq_zero h0, rfl⟩
  · refine .inr ⟨g, 0, cap, rfl, hn, hm, (Array.getElem?_eq_some_iff.1 hh).1, fun j hj i hi => ?_⟩
    rw [← E.at l j hj i hi, ← ht, List.getElem?_take]
    have hle : j * E.size + E.size ≤ l.length * E.size := by
      have := Nat.mul_le_mul_right E.size (show j + 1 ≤ l.length by omega)
      rw [Nat.add_mul] at this; omega
    rw [if_pos (by omega), Nat.zero_add]
    simp [World.cell?, hh]
theorem info_of (E : Elem P α) : ∃ i, P.info? E.tE = some i ∧ i.zero = some E.z ∧ i.size = E.size ∧ i.bytes = E.bytes := by
  have h := E.info
  cases e : P.info? E.tE with
  | none => rw [e] at h; cases h
  | some i => rw [e] at h; simp at h; exact ⟨i, rfl, h.1, h.2.1, h.2.2⟩
/-- append of one value that was just laid in a row of its own -/
theorem wpList_appE {ops : Array Oper} {rest : List Oper} {o : Oper} {act : Act} {w : World} {Q : Exit → Act → World → Prop} (E : Elem P α) (hgd : o.guard = none) (s x : Operand)
    (ho : o.op = .call { callee := .builtin .append, args := #[s, x], argTypes := #[E.tS, E.tS] })
    (W0 : World) (v : Value) (l : List α) (a : α) (c : Nat) (hown : OwnE E w W0.heap.size v l) (hs : act.eval s = v) (B : Nat) (hx : act.eval x = .slice (some ⟨B, 0, none⟩) 1 c) (hB : B = w.heap.size)
    (hlen : (l.length + 1) * E.bytes ≤ 140737488355328) (hbel : Below W0.heap.size W0 w) (hb1 : 1 ≤ E.bytes)
    (h : ∀ v' w', OwnE E w' W0.heap.size v' (l ++ [a]) → Below W0.heap.size W0 w' → Only (fun k => v.ownBlock = some k) w w' → (v'.ownBlock = v.ownBlock ∨ ∃ k, v'.ownBlock = some k ∧ w.heap.size ≤ k) → wpList P ops Q rest (act.put o.dst v') w') :
    wpList P ops Q (o :: rest) act (w.alloc (.cells (E.enc a).toArray E.tE)) := by
  subst hB
  obtain ⟨i0, hi, hz0, hz1, hz2⟩ := info_of E
  have hb2 : Below W0.heap.size W0 (w.alloc (.cells (E.enc a).toArray E.tE)) := allocB hbel _
  refine wpList_append_own_at _ hgd s x _ ho W0.heap.size E.tE i0 E.z E.size E.bytes E.und hi hz0 hz1 hz2 E.zs E.pos v l.length (l.flatMap E.enc) hs (hown.below ((Below.refl _ _).alloc (Nat.le_refl _) _)) ⟨w.heap.size, 0, none⟩ 1 c (E.enc a) hx (by rw [E.len, Nat.one_mul]) ?_ (E.one a) ?_ hlen hb2.size ?_
  · intro j u hu
    have hadd : (⟨w.heap.size, 0, none⟩ : Addr).add j = ⟨w.heap.size, j, none⟩ := by unfold Addr.add; split <;> simp_all
    rw [hadd, World.cell?_alloc_new]
    simpa using hu
  · have := Nat.le_mul_of_pos_right (l.length + 1) hb1
    simp only [maxLen]; omega
  · intro v' w' hown' hg _ hat
    refine h v' w' ?_ (hb2.grown hg hb2.size hown.block) ?_ (hat.imp id fun e => ⟨_, e, by simp⟩)
    · unfold OwnE
      rw [List.flatMap_append, List.length_append]
      simpa using hown'
    · refine (((Only.refl _ w).alloc (.cells (E.enc a).toArray E.tE)).and (T := fun k => v.ownBlock = some k) ⟨hg.os, hg.tape, hg.output, hg.size, fun k hk hn => hg.block k hk fun e => hn e.symm⟩ fun i hi => .inl hi)
/-- append of all of a slice -/
theorem wpList_appSeq {ops : Array Oper} {rest : List Oper} {o : Oper} {act : Act} {w : World} {Q : Exit → Act → World → Prop} (E : Elem P α) (hgd : o.guard = none) (s x : Operand)
    (ho : o.op = .call { callee := .builtin .append, args := #[s, x], argTypes := #[E.tS, E.tS] })
    (W0 : World) (v v2 : Value) (l l2 : List α) (hown : OwnE E w W0.heap.size v l) (hsrc : SeqAt E w v2 l2) (hs : act.eval s = v) (hx : act.eval x = v2)
    (hlen : (l.length + l2.length) * E.bytes ≤ 140737488355328) (hbel : Below W0.heap.size W0 w) (hb1 : 1 ≤ E.bytes)
    (h : ∀ v' w', OwnE E w' W0.heap.size v' (l ++ l2) → Below W0.heap.size W0 w' → Only (fun k => v.ownBlock = some k) w w' → (v'.ownBlock = v.ownBlock ∨ ∃ k, v'.ownBlock = some k ∧ w.heap.size ≤ k) → wpList P ops Q rest (act.put o.dst v') w') :
    wpList P ops Q (o :: rest) act w := by
  obtain ⟨i0, hi, hz0, hz1, hz2⟩ := info_of E
  rcases hsrc with ⟨rfl, rfl⟩ | ⟨g, o2, c, rfl, h1, h2, hg, hc⟩
  · exact wpList_append_own_none hgd s x _ ho W0.heap.size E.tE i0 E.size E.und hi v l.length (l.flatMap E.enc) hs hown hx (h v w (by rw [List.append_nil]; exact hown) hbel (Only.refl _ _) (.inl rfl))
  · refine wpList_append_own_at _ hgd s x _ ho W0.heap.size E.tE i0 E.z E.size E.bytes E.und hi hz0 hz1 hz2 E.zs E.pos v l.length (l.flatMap E.enc) hs hown ⟨g, o2, none⟩ l2.length c (l2.flatMap E.enc) hx (E.length l2) ?_ (E.one' l2) ?_ hlen hbel.size ?_
    · intro j u hu
      have hj : j < l2.length * E.size := by
        have := (List.getElem?_eq_some_iff.1 hu).1
        rw [E.length] at this; exact this
      have hdm := Nat.div_add_mod j E.size
      have hm := Nat.mod_lt j E.pos
      have hd : j / E.size < l2.length := Nat.div_lt_of_lt_mul (by rw [Nat.mul_comm]; exact hj)
      have hadd : (⟨g, o2, none⟩ : Addr).add j = ⟨g, o2 + j, none⟩ := by unfold Addr.add; split <;> simp_all
      have hjj : j = j / E.size * E.size + j % E.size := by rw [Nat.mul_comm]; omega
      have hcj := hc (j / E.size) hd (j % E.size) hm
      rw [← E.at l2 (j / E.size) hd (j % E.size) hm, ← hjj, hu, Nat.add_assoc, ← hjj] at hcj
      rw [hadd]; exact hcj
    · have := Nat.le_mul_of_pos_right (l.length + l2.length) hb1
      simp only [maxLen]; omega
    · intro v' w' hown' hg' _ hat
      refine h v' w' ?_ (hbel.grown hg' hbel.size hown.block) ?_ (hat.imp id fun e => ⟨_, e, Nat.le_refl _⟩)
      · unfold OwnE
        rw [List.flatMap_append, List.length_append]
        exact hown'
      · exact ⟨hg'.os, hg'.tape, hg'.output, hg'.size, fun k hk hn => hg'.block k hk fun e => hn e.symm⟩
end
/-- a region that draws: reads and quiet calls, then one operation that writes -/
theorem wp_stillTail {P : Program} {id : Nat} {Q : Exit → Act → World → Prop} {a : Act} {w : World} {l : List Oper} (n : Nat) (hm : P.follows .mixedOrders = true) (hB : Region.lexTailB .any l.toArray n = true)
    (h : wpStill P l.toArray w.drew (fun a' => wpList P l.toArray Q (l.drop n) a' w.drew) (l.take n) a) : (Code.region id l.toArray true).wp P Q a w :=
  wp_region_still_tail n hm hB h
/-- the same, nothing is written -/
theorem wp_stillAll {P : Program} {id : Nat} {Q : Exit → Act → World → Prop} {a : Act} {w : World} {l : List Oper} (hm : P.follows .mixedOrders = true) (hB : Region.lexB .any l.toArray = true)
    (h : wpStill P l.toArray w.drew (fun a' => Q .normal a' w.drew) l a) : (Code.region id l.toArray true).wp P Q a w :=
  wp_region_still_lit hm hB h
end Go.Proofs.YteigigepmoicaaaGreatDoor
/-! Regions that draw: one order for all. What reads goes first; S holds behind each operation that writes. -/
namespace Go.Proofs.YteigigepmoicaaaGreatDoor
open Go.RowKit
section
variable {P : Program} {ops : Array Oper} {Q : Exit → Act → World → Prop} {S : World → Prop}
/-- a store into another block -/
theorem cell_far (w : World) (p a : Addr) (v : Value) (h : p.block ≠ a.block) : (w.setCell p v).cell? a = w.cell? a :=
  World.cell?_setCell_other w p a v (fun e => h (by rw [e]))
/-- Q behind an exit; K behind the normal end -/
def QRun (Q : Exit → Act → World → Prop) (K : Act → World → Prop) : Exit → Act → World → Prop
  | .normal, a, w => K a w
  | e, a, w => Q e a w
theorem wpOp_of_list {i : Nat} {o : Oper} {K : Act → World → Prop} {a : Act} {w : World} (ho : ops[i]? = some o) (h : wpList P ops (QRun Q K) [o] a w) : wpOp P ops Q i K a w := by
  unfold wpOp
  rw [ho]
  simp only [wpList] at h
  show if _ then _ else _
  split
  · rename_i hw
    rw [if_pos hw] at h
    rcases h with h | ⟨h1, h2⟩
    · refine .inl ?_
      unfold Oper.wp at *
      generalize (execOp a.eval o).run P w = r at *
      cases r with
      | ok n w' =>
        cases n <;> simp only [Oper.upon] at h ⊢
        all_goals first
          | exact h
          | (refine h.mono ?_
             intro e w'' he
             cases e <;> first | exact he | (exact fun hx => he hx))
      | halt x w' => cases x <;> first | exact h | exact h.elim
    · exact .inr ⟨h1, h2⟩
  · rename_i hw
    rw [if_neg hw] at h
    exact h
/-- is a schedule one that every order may be turned into? true: a read, taken first; false: all that may come up -/
def schedB (md : Region.Mode) (ops : Array Oper) : List (Nat × Bool) → Array Bool → Bool
  | [], listed => (Region.ready md ops listed).isEmpty
  | (i, true) :: r, listed => Region.free md ops listed i && (Region.ready md ops listed).contains i && schedB md ops r (listed.setIfInBounds i true)
  | (i, false) :: r, listed => (Region.ready md ops listed == [i]) && schedB md ops r (listed.setIfInBounds i true)
def wpSched (P : Program) (ops : Array Oper) (S : World → Prop) (Q : Exit → Act → World → Prop) : List (Nat × Bool) → Act → World → Prop
  | [], a, w => Q .normal a w
  | (i, true) :: r, a, w => ∃ o v, ops[i]? = some o ∧ YieldsIf P ops S o v a ∧ wpSched P ops S Q r (a.put o.dst v) w
  | (i, false) :: r, a, w => wpOp P ops Q i (fun a' w' => S w' ∧ wpSched P ops S Q r a' w') a w
theorem sched_held (hs : Region.noSelect ops = true) (hQ : ∀ c d v a w, Q (.panic c) (Act.put a d v) w → Q (.panic c) a w) : ∀ (l : List (Nat × Bool)) (listed : Array Bool) (a : Act) (w : World),
    schedB .any ops l listed = true → S w → wpSched P ops S Q l a w → wpAnyH P .any ops Q S l.length listed a w
  | [], listed, a, w, hB, _, h => ⟨by simpa [schedB] using hB, h⟩
  | (i, true) :: r, listed, a, w, hB, hS, ⟨o, v, ho, hy, h⟩ => by
    simp only [schedB, Bool.and_eq_true] at hB
    obtain ⟨⟨h1, h2⟩, h3⟩ := hB
    exact wpAnyH_take ho hs h1 h2 (fun c a w => hQ c _ _ a w) hy hS (sched_held hs hQ r _ _ w h3 hS h)
  | (i, false) :: r, listed, a, w, hB, hS, h => by
    simp only [schedB, Bool.and_eq_true, beq_iff_eq] at hB
    obtain ⟨h1, h2⟩ := hB
    refine wpAnyH_all h1 (by simp) fun j hj => ?_
    rw [List.mem_singleton] at hj
    subst hj
    exact wpOp_mono (fun a' w' ⟨k1, k2⟩ => ⟨k1, sched_held hs hQ r _ a' w' h2 k1 k2⟩) h
theorem wp_sched {id : Nat} {a : Act} {w : World} {l : List Oper} (S : World → Prop) (sc : List (Nat × Bool)) (hm : P.follows .mixedOrders = true) (hs : Region.noSelect l.toArray = true) (hn : sc.length = l.toArray.size)
    (hB : schedB .any l.toArray sc (Array.replicate l.toArray.size false) = true) (hS : S w.drew) (hQ : ∀ c d v a w, Q (.panic c) (Act.put a d v) w → Q (.panic c) a w)
    (h : wpSched P l.toArray S Q sc a w.drew) : (Code.region id l.toArray true).wp P Q a w := by
  refine wp_region_held (S := S) hm ?_
  rw [← hn]
  have := sched_held (P := P) hs hQ sc (Array.replicate l.toArray.size false) a w.drew hB hS h
  rw [← hn] at this
  exact this
/-- the operations of a schedule, in its row -/
def schedOps (ops : Array Oper) (sc : List (Nat × Bool)) : List (Oper × Bool) := sc.filterMap fun x => (ops[x.1]?).map fun o => (o, x.2)
def wpSchedL (P : Program) (ops : Array Oper) (S : World → Prop) (Q : Exit → Act → World → Prop) : List (Oper × Bool) → Act → World → Prop
  | [], a, w => Q .normal a w
  | (o, true) :: r, a, w => ∃ v, YieldsIf P ops S o v a ∧ wpSchedL P ops S Q r (a.put o.dst v) w
  | (o, false) :: r, a, w => ∀ K : Act → World → Prop, Hid (∀ a' w', S w' → wpSchedL P ops S Q r a' w' → K a' w') → wpList P ops (QRun Q K) [o] a w
theorem sched_of_list : ∀ (sc : List (Nat × Bool)) (a : Act) (w : World), (sc.all fun x => decide (x.1 < ops.size)) = true → wpSchedL P ops S Q (schedOps ops sc) a w → wpSched P ops S Q sc a w
  | [], a, w, _, h => h
  | (i, b) :: r, a, w, hB, h => by
    simp only [List.all_cons, Bool.and_eq_true, decide_eq_true_eq] at hB
    obtain ⟨hi, hr⟩ := hB
    have ho : ops[i]? = some ops[i] := Array.getElem?_eq_getElem hi
    have e : schedOps ops ((i, b) :: r) = (ops[i], b) :: schedOps ops r := by
      unfold schedOps
      rw [List.filterMap_cons]
      simp only [ho, Option.map_some]
    rw [e] at h
    cases b with
    | true =>
      obtain ⟨v, hy, h2⟩ := h
      exact ⟨ops[i], v, ho, hy, sched_of_list r _ w hr h2⟩
    | false => exact wpOp_of_list ho (h _ (Lib.hid fun a' w' h1 h2 => ⟨h1, sched_of_list r a' w' hr h2⟩))
theorem wp_schedL {id : Nat} {a : Act} {w : World} {l : List Oper} (S : World → Prop) (sc : List (Nat × Bool)) (hm : P.follows .mixedOrders = true) (hs : Region.noSelect l.toArray = true) (hn : sc.length = l.toArray.size)
    (hi : (sc.all fun x => decide (x.1 < l.toArray.size)) = true)
    (hB : schedB .any l.toArray sc (Array.replicate l.toArray.size false) = true) (hS : S w.drew) (hQ : ∀ c d v a w, Q (.panic c) (Act.put a d v) w → Q (.panic c) a w)
    (h : wpSchedL P l.toArray S Q (schedOps l.toArray sc) a w.drew) : (Code.region id l.toArray true).wp P Q a w :=
  wp_sched S sc hm hs hn hB hS hQ (sched_of_list sc _ _ hi h)
theorem wpSched_take {o : Oper} {r : List (Oper × Bool)} {a : Act} {w : World} (v : Value) (hw : Region.wanted o (yielded ops a.tmps) = true)
    (hv : ∀ w, S w → (execOp a.eval o).run P w = .ok (.value v) w) (h : wpSchedL P ops S Q r (a.put o.dst v) w) : wpSchedL P ops S Q ((o, true) :: r) a w := ⟨v, .inl ⟨hw, hv⟩, h⟩
theorem wpSched_skip {o : Oper} {r : List (Oper × Bool)} {a : Act} {w : World} (hw : Region.wanted o (yielded ops a.tmps) = false)
    (h : wpSchedL P ops S Q r (a.put o.dst undef) w) : wpSchedL P ops S Q ((o, true) :: r) a w := ⟨undef, .inr ⟨hw, rfl⟩, h⟩
theorem wpSched_run {o : Oper} {r : List (Oper × Bool)} {a : Act} {w : World}
    (h : ∀ K : Act → World → Prop, Hid (∀ a' w', S w' → wpSchedL P ops S Q r a' w' → K a' w') → wpList P ops (QRun Q K) [o] a w) : wpSchedL P ops S Q ((o, false) :: r) a w := h
theorem wpSched_done {a : Act} {w : World} (h : Q .normal a w) : wpSchedL P ops S Q [] a w := h
theorem QRun_normal {K : Act → World → Prop} {a : Act} {w : World} (h : K a w) : QRun Q K .normal a w := h
end
end Go.Proofs.YteigigepmoicaaaGreatDoor
