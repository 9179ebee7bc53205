/- Contracts of library functions at this program, each one application of the library's own theorem; conditions as each states. -/
import Derived.Shelf.Strings.Builder1
import Derived.Shelf.Strings.Builder2
import Derived.Shelf.Strings.OnBuilder
import Derived.Shelf.Strconv.Atoi
import Derived.Shelf.Strconv.Itoa0
import Derived.Shelf.Strconv.Itoa1
import Derived.Shelf.LaysM
import Derived.Shelf.Strconv.Itoa2
import Derived.Shelf.Strconv.Itoa3
import Derived.Shelf.Strconv.AtoiErrFast
import Derived.Shelf.Strconv.ParseIntEmpty
import Derived.Shelf.Strconv.AtoiFail
import Derived.Shelf.Strconv.Clone
import Derived.Shelf.Strconv.SyntaxError
import Derived.Shelf.LaysC
import Derived.Shelf.Strconv.ToError
import Derived.Shelf.Strconv.Lower
import Derived.Shelf.Strconv.ParseUint10
import Derived.Shelf.Strconv.ParseUint10Empty
import Derived.Shelf.Strconv.ParseUint10Any
import Derived.Shelf.Strconv.ParseInt10
import Derived.Shelf.Strconv.AtoiLong
import Derived.Shelf.Strconv.AtoiInnerAll
import Derived.Shelf.Strconv.RangeError
import Derived.Shelf.Strconv.ToErrorRange
import Derived.Shelf.Strconv.AtoiAll
import Derived.Shelf.Strconv.ErrVarAll
import Derived.Shelf.Strings.Search1
import Derived.Shelf.Strings.Search2
import Derived.Shelf.Strings.Search3
import Derived.Shelf.Strings.Cut
import Derived.Shelf.Strings.Count
import Derived.Shelf.Strings.Shaped
import Derived.Shelf.Strings.Split
import Derived.Shelf.Strings.SplitShaped
import Derived.Shelf.Unicode.DecodeSlow
import Derived.Test.YtppbpefehpbejaaGreatDoorProg
import Derived.Test.YtppbpefehpbejaaGreatDoorZix21
import Derived.Lib.AppendIntMem
import Derived.Lib.LaidTab
import Derived.LaidSub
import Derived.MakeChecks
import Derived.Shelf.Vars
import Derived.HandedShaped
import Derived.Handed
import Derived.Stop.LaidErr
import Derived.LaidLaws
import Derived.Test.YtppbpefehpbejaaGreatDoorZix22
section
namespace Go.Proofs.YtppbpefehpbejaaGreatDoor
open Go.Shelf

def Tryz.lays156_ren : Go.Shelf.Ren := ⟨fun | 156 => 177 | 165 => 198 | 166 => 199 | 169 => 200 | 240 => 219 | 241 => 220 | 276 => 235 | 277 => 236 | n => n, fun | 31 => 141 | 9 => 9 | 3 => 3 | 4 => 4 | 0 => 0 | 20 => 20 | 72 => 181 | 76 => 121 | 70 => 179 | 37 => 22 | 75 => 120 | 127 => 197 | 164 => 213 | 5 => 5 | 80 => 183 | n => n, fun | n => n⟩

theorem Tryz.lays156 : Go.Proofs.Lays.n156 Tryz.prog Tryz.lays156_ren := {
  mixed := by kernel_rfl
  f156 := Tryz.func177.trans (congrArg some (w110_))
  f165 := Tryz.func198.trans (congrArg some (w110_))
  f166 := Tryz.func199.trans (congrArg some (w110_))
  f169 := Tryz.func200.trans (congrArg some (w110_))
  f240 := Tryz.func219.trans (congrArg some (w110_))
  f241 := Tryz.func220.trans (congrArg some (w110_))
  f276 := Tryz.func235.trans (congrArg some (w110_))
  f277 := Tryz.func236.trans (congrArg some (w110_))
  t0 := Tryz.underlying0
  a0 := Tryz.isAgg0
  z0 := Tryz.sizeOf0
  v0 := Tryz.zeroValue0
  t3 := Tryz.underlying3
  a3 := Tryz.isAgg3
  z3 := Tryz.sizeOf3
  v3 := Tryz.zeroValue3
  t4 := Tryz.underlying4
  a4 := Tryz.isAgg4
  z4 := Tryz.sizeOf4
  v4 := Tryz.zeroValue4
  t9 := Tryz.underlying9
  a9 := Tryz.isAgg9
  z9 := Tryz.sizeOf9
  v9 := Tryz.zeroValue9
  t20 := Tryz.underlying20
  a20 := Tryz.isAgg20
  z20 := Tryz.sizeOf20
  v20 := Tryz.zeroValue20
  t31 := Tryz.underlying141
  a31 := Tryz.isAgg141
  z31 := Tryz.sizeOf141
  v31 := Tryz.zeroValue141
  t37 := Tryz.underlying22
  a37 := Tryz.isAgg22
  z37 := Tryz.sizeOf22
  v37 := Tryz.zeroValue22
  t70 := Tryz.underlying179
  a70 := Tryz.isAgg179
  z70 := Tryz.sizeOf179
  v70 := Tryz.zeroValue179
  t72 := Tryz.underlying181
  a72 := Tryz.isAgg181
  z72 := Tryz.sizeOf181
  v72 := Tryz.zeroValue181
  t75 := Tryz.underlying120
  a75 := Tryz.isAgg120
  z75 := Tryz.sizeOf120
  v75 := Tryz.zeroValue120
  t76 := Tryz.underlying121
  a76 := Tryz.isAgg121
  z76 := Tryz.sizeOf121
  v76 := Tryz.zeroValue121
  t127 := Tryz.underlying197
  a127 := Tryz.isAgg197
  z127 := Tryz.sizeOf197
  v127 := Tryz.zeroValue197
  t164 := Tryz.underlying213
  a164 := Tryz.isAgg213
  z164 := Tryz.sizeOf213
  v164 := Tryz.zeroValue213 }

theorem Tryz.Builder_Extra_156 : Builder.Extra Tryz.prog Tryz.lays156_ren := {
  sizeBuilder := by kernel_rfl
  liesBuilder := by kernel_rfl
  t5 := Tryz.underlying5
  a5 := Tryz.isAgg5
  z5 := Tryz.sizeOf5
  v5 := Tryz.zeroValue5
  infoByte := by kernel_rfl
  cellsByte := by kernel_rfl
  sizeByte := by kernel_rfl
  neB5 := by decide }

open Go.RowKit in
theorem Tryz.strings_Join_none (a : Option Addr) (c : Nat) (sep : ByteArray) (w : World) :
    Calls Tryz.prog 177 #[.slice a 0 c, .string sep] w fun e w' => e = .returned (.string ⟨#[]⟩) ∧ w' = w := Any.strings_Join_none Tryz.lays156 Tryz.Builder_Extra_156 a c sep w

open Go.RowKit in
theorem Tryz.strings_Join (bk o c : Nat) (xs : List ByteArray) (sep : ByteArray) (w : World) (hcells : ∀ (j : Nat) x, xs[j]? = some x → w.cell? ⟨bk, o + j, none⟩ = some (.string x)) (hbk : bk < w.heap.size) (hN : xs.length ≤ 140737488355328) (hcap : xs.length ≤ c) (hlen : (Lib.join (xs.map (·.data.toList)) sep.data.toList).length ≤ 140737488355328) :
    Calls Tryz.prog 177 #[.slice (some ⟨bk, o, none⟩) xs.length c, .string sep] w fun e w' => e = .returned (.string ⟨(Lib.join (xs.map (·.data.toList)) sep.data.toList).toArray⟩) ∧ Below w.heap.size w w' := Any.strings_Join Tryz.lays156 Tryz.Builder_Extra_156 bk o c xs sep w hcells hbk hN hcap hlen

def Tryz.laysM171_ren : Go.Shelf.Ren := ⟨fun | 171 => 166 | 243 => 191 | 246 => 211 | 283 => 227 | 284 => 228 | 285 => 229 | 286 => 230 | 129 => 239 | 317 => 238 | 318 => 240 | 319 => 241 | 320 => 242 | 337 => 243 | 338 => 244 | n => n, fun | 3 => 3 | 9 => 9 | 2 => 2 | 4 => 4 | 171 => 200 | 0 => 0 | 53 => 97 | 37 => 22 | 5 => 5 | 173 => 203 | 212 => 216 | 51 => 205 | 20 => 20 | 213 => 217 | 46 => 178 | 232 => 224 | 233 => 225 | n => n, fun | 17 => 3 | 18 => 6 | 19 => 7 | n => n⟩

theorem Tryz.laysM171 : Go.Proofs.LaysM.n171 Tryz.prog Tryz.laysM171_ren := {
  mixed := by kernel_rfl
  f129 := Tryz.func239.trans (congrArg some (w110_))
  f171 := Tryz.func166.trans (congrArg some (w110_))
  f243 := Tryz.func191.trans (congrArg some (w110_))
  f246 := Tryz.func211.trans (congrArg some (w110_))
  f283 := Tryz.func227.trans (congrArg some (w110_))
  f284 := Tryz.func228.trans (congrArg some (w110_))
  f285 := Tryz.func229.trans (congrArg some (w110_))
  f286 := Tryz.func230.trans (congrArg some (w110_))
  f317 := Tryz.func238.trans (congrArg some (w110_))
  f318 := Tryz.func240.trans (congrArg some (w110_))
  f319 := Tryz.func241.trans (congrArg some (w110_))
  f320 := Tryz.func242.trans (congrArg some (w110_))
  f337 := Tryz.func243.trans (congrArg some (w110_))
  f338 := Tryz.func244.trans (congrArg some (w110_))
  t0 := Tryz.underlying0
  a0 := Tryz.isAgg0
  z0 := Tryz.sizeOf0
  v0 := Tryz.zeroValue0
  t2 := Tryz.underlying2
  a2 := Tryz.isAgg2
  z2 := Tryz.sizeOf2
  v2 := Tryz.zeroValue2
  t3 := Tryz.underlying3
  a3 := Tryz.isAgg3
  z3 := Tryz.sizeOf3
  v3 := Tryz.zeroValue3
  t4 := Tryz.underlying4
  a4 := Tryz.isAgg4
  z4 := Tryz.sizeOf4
  v4 := Tryz.zeroValue4
  t5 := Tryz.underlying5
  a5 := Tryz.isAgg5
  z5 := Tryz.sizeOf5
  v5 := Tryz.zeroValue5
  t9 := Tryz.underlying9
  a9 := Tryz.isAgg9
  z9 := Tryz.sizeOf9
  v9 := Tryz.zeroValue9
  t20 := Tryz.underlying20
  a20 := Tryz.isAgg20
  z20 := Tryz.sizeOf20
  v20 := Tryz.zeroValue20
  t37 := Tryz.underlying22
  a37 := Tryz.isAgg22
  z37 := Tryz.sizeOf22
  v37 := Tryz.zeroValue22
  t46 := Tryz.underlying178
  a46 := Tryz.isAgg178
  z46 := Tryz.sizeOf178
  v46 := Tryz.zeroValue178
  t51 := Tryz.underlying205
  a51 := Tryz.isAgg205
  z51 := Tryz.sizeOf205
  v51 := Tryz.zeroValue205
  t53 := Tryz.underlying97
  a53 := Tryz.isAgg97
  z53 := Tryz.sizeOf97
  v53 := Tryz.zeroValue97
  t171 := Tryz.underlying200
  a171 := Tryz.isAgg200
  z171 := Tryz.sizeOf200
  v171 := Tryz.zeroValue200
  t173 := Tryz.underlying203
  a173 := Tryz.isAgg203
  z173 := Tryz.sizeOf203
  v173 := Tryz.zeroValue203
  t212 := Tryz.underlying216
  a212 := Tryz.isAgg216
  z212 := Tryz.sizeOf216
  v212 := Tryz.zeroValue216
  t213 := Tryz.underlying217
  a213 := Tryz.isAgg217
  z213 := Tryz.sizeOf217
  t232 := Tryz.underlying224
  a232 := Tryz.isAgg224
  z232 := Tryz.sizeOf224
  v232 := Tryz.zeroValue224
  t233 := Tryz.underlying225
  a233 := Tryz.isAgg225
  z233 := Tryz.sizeOf225
  v233 := Tryz.zeroValue225
  g17 := by kernel_rfl
  g18 := by kernel_rfl
  g19 := by kernel_rfl
  i0 := by kernel_rfl
  i2 := by kernel_rfl
  i3 := by kernel_rfl
  i4 := by kernel_rfl
  i5 := by kernel_rfl
  i9 := by kernel_rfl
  i20 := by kernel_rfl
  i37 := by kernel_rfl
  i46 := by kernel_rfl
  i51 := by kernel_rfl
  i53 := by kernel_rfl
  i171 := by kernel_rfl
  i173 := by kernel_rfl
  i212 := by kernel_rfl
  i232 := by kernel_rfl
  i233 := by kernel_rfl
  m17 := by kernel_rfl
  m18 := by kernel_rfl
  m19 := w110_ }

open Go.RowKit Go.Sort Go.Lib in
theorem Tryz.strconv_Itoa (n : Int) (h0 : -9223372036854775808 ≤ n) (h1 : n ≤ 9223372036854775807) (w : World) (htab : Lib.TabIs Tryz.prog w "internal/strconv.uint64pow10" .u64 Lib.pow10Tab) :
    Calls Tryz.prog 166 #[.int .i64 n] w fun e w' => e = .returned (.string ⟨(Lib.itoa n).toArray⟩) ∧ ∃ k os, w' = grow (w.drewN k) os := Any.strconv_Itoa Tryz.laysM171 n h0 h1 w htab

def Tryz.laysC172_ren : Go.Shelf.Ren := ⟨fun | 172 => 111 | 244 => 169 | 245 => 170 | 247 => 193 | 279 => 194 | 280 => 195 | 281 => 196 | 282 => 197 | 287 => 216 | 316 => 217 | 171 => 166 | 205 => 218 | 321 => 233 | 322 => 234 | 243 => 191 | 246 => 211 | 283 => 227 | 284 => 228 | 285 => 229 | 286 => 230 | 129 => 239 | 317 => 238 | 318 => 240 | 319 => 241 | 320 => 242 | 337 => 243 | 338 => 244 | n => n, fun | 9 => 9 | 3 => 3 | 75 => 120 | 76 => 121 | 4 => 4 | 5 => 5 | 167 => 172 | 37 => 22 | 0 => 0 | 85 => 173 | 2 => 2 | 168 => 175 | 53 => 97 | 175 => 191 | 46 => 178 | 210 => 195 | 127 => 197 | 145 => 212 | 143 => 210 | 21 => 21 | 171 => 200 | 173 => 203 | 212 => 216 | 51 => 205 | 20 => 20 | 213 => 217 | 232 => 224 | 233 => 225 | 80 => 183 | n => n, fun | 15 => 1 | 16 => 2 | 17 => 3 | 18 => 6 | 19 => 7 | n => n⟩

theorem Tryz.laysC172 : Go.Proofs.LaysC.n172 Tryz.prog Tryz.laysC172_ren := {
  mixed := by kernel_rfl
  f129 := Tryz.func239.trans (congrArg some (w110_))
  f171 := Tryz.func166.trans (congrArg some (w110_))
  f172 := Tryz.func111.trans (congrArg some (w110_))
  f205 := Tryz.func218.trans (congrArg some (w110_))
  f243 := Tryz.func191.trans (congrArg some (w110_))
  f244 := Tryz.func169.trans (congrArg some (w110_))
  f245 := Tryz.func170.trans (congrArg some (w110_))
  f246 := Tryz.func211.trans (congrArg some (w110_))
  f247 := Tryz.func193.trans (congrArg some (w110_))
  f279 := Tryz.func194.trans (congrArg some (w110_))
  f280 := Tryz.func195.trans (congrArg some (w110_))
  f281 := Tryz.func196.trans (congrArg some (w110_))
  f282 := Tryz.func197.trans (congrArg some (w110_))
  f283 := Tryz.func227.trans (congrArg some (w110_))
  f284 := Tryz.func228.trans (congrArg some (w110_))
  f285 := Tryz.func229.trans (congrArg some (w110_))
  f286 := Tryz.func230.trans (congrArg some (w110_))
  f287 := Tryz.func216.trans (congrArg some (w110_))
  f316 := Tryz.func217.trans (congrArg some (w110_))
  f317 := Tryz.func238.trans (congrArg some (w110_))
  f318 := Tryz.func240.trans (congrArg some (w110_))
  f319 := Tryz.func241.trans (congrArg some (w110_))
  f320 := Tryz.func242.trans (congrArg some (w110_))
  f321 := Tryz.func233.trans (congrArg some (w110_))
  f322 := Tryz.func234.trans (congrArg some (w110_))
  f337 := Tryz.func243.trans (congrArg some (w110_))
  f338 := Tryz.func244.trans (congrArg some (w110_))
  t0 := Tryz.underlying0
  a0 := Tryz.isAgg0
  z0 := Tryz.sizeOf0
  v0 := Tryz.zeroValue0
  t2 := Tryz.underlying2
  a2 := Tryz.isAgg2
  z2 := Tryz.sizeOf2
  v2 := Tryz.zeroValue2
  t3 := Tryz.underlying3
  a3 := Tryz.isAgg3
  z3 := Tryz.sizeOf3
  v3 := Tryz.zeroValue3
  t4 := Tryz.underlying4
  a4 := Tryz.isAgg4
  z4 := Tryz.sizeOf4
  v4 := Tryz.zeroValue4
  t5 := Tryz.underlying5
  a5 := Tryz.isAgg5
  z5 := Tryz.sizeOf5
  v5 := Tryz.zeroValue5
  t9 := Tryz.underlying9
  a9 := Tryz.isAgg9
  z9 := Tryz.sizeOf9
  v9 := Tryz.zeroValue9
  t20 := Tryz.underlying20
  a20 := Tryz.isAgg20
  z20 := Tryz.sizeOf20
  v20 := Tryz.zeroValue20
  t21 := Tryz.underlying21
  a21 := Tryz.isAgg21
  z21 := Tryz.sizeOf21
  v21 := Tryz.zeroValue21
  t37 := Tryz.underlying22
  a37 := Tryz.isAgg22
  z37 := Tryz.sizeOf22
  v37 := Tryz.zeroValue22
  t46 := Tryz.underlying178
  a46 := Tryz.isAgg178
  z46 := Tryz.sizeOf178
  v46 := Tryz.zeroValue178
  t51 := Tryz.underlying205
  a51 := Tryz.isAgg205
  z51 := Tryz.sizeOf205
  v51 := Tryz.zeroValue205
  t53 := Tryz.underlying97
  a53 := Tryz.isAgg97
  z53 := Tryz.sizeOf97
  v53 := Tryz.zeroValue97
  t75 := Tryz.underlying120
  a75 := Tryz.isAgg120
  z75 := Tryz.sizeOf120
  v75 := Tryz.zeroValue120
  t76 := Tryz.underlying121
  a76 := Tryz.isAgg121
  z76 := Tryz.sizeOf121
  v76 := Tryz.zeroValue121
  t85 := Tryz.underlying173
  a85 := Tryz.isAgg173
  z85 := Tryz.sizeOf173
  v85 := Tryz.zeroValue173
  t127 := Tryz.underlying197
  a127 := Tryz.isAgg197
  z127 := Tryz.sizeOf197
  v127 := Tryz.zeroValue197
  t143 := Tryz.underlying210
  a143 := Tryz.isAgg210
  z143 := Tryz.sizeOf210
  v143 := Tryz.zeroValue210
  t145 := Tryz.underlying212
  a145 := Tryz.isAgg212
  z145 := Tryz.sizeOf212
  v145 := Tryz.zeroValue212
  t167 := Tryz.underlying172
  a167 := Tryz.isAgg172
  z167 := Tryz.sizeOf172
  v167 := Tryz.zeroValue172
  t168 := Tryz.underlying175
  a168 := Tryz.isAgg175
  z168 := Tryz.sizeOf175
  v168 := Tryz.zeroValue175
  t171 := Tryz.underlying200
  a171 := Tryz.isAgg200
  z171 := Tryz.sizeOf200
  v171 := Tryz.zeroValue200
  t173 := Tryz.underlying203
  a173 := Tryz.isAgg203
  z173 := Tryz.sizeOf203
  v173 := Tryz.zeroValue203
  t175 := Tryz.underlying191
  a175 := Tryz.isAgg191
  z175 := Tryz.sizeOf191
  v175 := Tryz.zeroValue191
  t210 := Tryz.underlying195
  a210 := Tryz.isAgg195
  z210 := Tryz.sizeOf195
  v210 := Tryz.zeroValue195
  t212 := Tryz.underlying216
  a212 := Tryz.isAgg216
  z212 := Tryz.sizeOf216
  v212 := Tryz.zeroValue216
  t213 := Tryz.underlying217
  a213 := Tryz.isAgg217
  z213 := Tryz.sizeOf217
  t232 := Tryz.underlying224
  a232 := Tryz.isAgg224
  z232 := Tryz.sizeOf224
  v232 := Tryz.zeroValue224
  t233 := Tryz.underlying225
  a233 := Tryz.isAgg225
  z233 := Tryz.sizeOf225
  v233 := Tryz.zeroValue225
  g15 := by kernel_rfl
  g16 := by kernel_rfl
  g17 := by kernel_rfl
  g18 := by kernel_rfl
  g19 := by kernel_rfl
  t80 := Tryz.underlying183
  a80 := Tryz.isAgg183
  z80 := Tryz.sizeOf183
  v80 := Tryz.zeroValue183
  i0 := by kernel_rfl
  i2 := by kernel_rfl
  i3 := by kernel_rfl
  i4 := by kernel_rfl
  i5 := by kernel_rfl
  i9 := by kernel_rfl
  i20 := by kernel_rfl
  i21 := by kernel_rfl
  i37 := by kernel_rfl
  i46 := by kernel_rfl
  i51 := by kernel_rfl
  i53 := by kernel_rfl
  i75 := by kernel_rfl
  i76 := by kernel_rfl
  i80 := by kernel_rfl
  i85 := by kernel_rfl
  i127 := by kernel_rfl
  i143 := by kernel_rfl
  i145 := by kernel_rfl
  i167 := by kernel_rfl
  i168 := by kernel_rfl
  i171 := by kernel_rfl
  i173 := by kernel_rfl
  i175 := by kernel_rfl
  i210 := by kernel_rfl
  i212 := by kernel_rfl
  i232 := by kernel_rfl
  i233 := by kernel_rfl
  m15 := by kernel_rfl
  m16 := by kernel_rfl
  m17 := by kernel_rfl
  m18 := by kernel_rfl
  m19 := by kernel_rfl
  c0 := by kernel_rfl
  c2 := by kernel_rfl
  c3 := by kernel_rfl
  c4 := by kernel_rfl
  c5 := by kernel_rfl
  c9 := by kernel_rfl
  c20 := by kernel_rfl
  c21 := by kernel_rfl
  c37 := by kernel_rfl
  c46 := by kernel_rfl
  c51 := by kernel_rfl
  c53 := by kernel_rfl
  c75 := by kernel_rfl
  c76 := by kernel_rfl
  c80 := by kernel_rfl
  c85 := by kernel_rfl
  c127 := by kernel_rfl
  c143 := by kernel_rfl
  c145 := by kernel_rfl
  c167 := by kernel_rfl
  c168 := by kernel_rfl
  c171 := by kernel_rfl
  c173 := by kernel_rfl
  c175 := by kernel_rfl
  c210 := by kernel_rfl
  c212 := by kernel_rfl
  c213 := by kernel_rfl
  c232 := by kernel_rfl
  c233 := w110_ }

open Go.RowKit in
theorem Tryz.strconv_Atoi_ok (s : ByteArray) (hmax : s.size ≤ 9223372036854775806) (v : Int) (h : Lib.atoiAll s.data.toList = .ok v) (w : World) :
    Calls Tryz.prog 111 #[.string s] w fun e w' => e = .returned (.tuple #[.int .i64 v, .nilIface]) ∧ (w' = w ∨ ∃ t, w' = Lib.bytesWorld w 5 t) := Any.strconv_Atoi_ok Tryz.laysC172 s hmax v h w

open Go.RowKit in
theorem Tryz.strconv_Atoi_range (s : ByteArray) (hlim : s.size ≤ 281474976710656) (h : Lib.atoiAll s.data.toList = .range) (ev : Value) (w : World) (hv : w.cell? ⟨2, 0, none⟩ = some ev) (hev : ev = .nilIface ∨ ∃ te pe, ev = .iface te pe) :
    Calls Tryz.prog 111 #[.string s] w fun e w' => ∃ N, e = .returned (.tuple #[.int .i64 (Lib.atoiSat s.data.toList), .iface 175 (.pointer (some ⟨N, 0, none⟩))]) ∧ w.heap.size ≤ N ∧ w'.heap[N]? = some (.cells #[.string ⟨#[65, 116, 111, 105]⟩, .string s, ev] 195 (0, 0)) ∧ Below w.heap.size w w' := Any.strconv_Atoi_range Tryz.laysC172 s hlim h ev w hv hev

def Tryz.lays145_ren : Go.Shelf.Ren := ⟨fun | 145 => 109 | 220 => 168 | 219 => 192 | 217 => 212 | 225 => 213 | 224 => 214 | 267 => 215 | 266 => 231 | 314 => 232 | n => n, fun | 9 => 9 | 4 => 4 | 59 => 116 | 3 => 3 | 5 => 5 | 46 => 178 | 146 => 206 | 51 => 205 | n => n, fun | 1 => 0 | n => n⟩

theorem Tryz.lays145 : Go.Proofs.Lays.n145 Tryz.prog Tryz.lays145_ren := {
  mixed := by kernel_rfl
  f145 := Tryz.func109.trans (congrArg some (w110_))
  f217 := Tryz.func212.trans (congrArg some (w110_))
  f219 := Tryz.func192.trans (congrArg some (w110_))
  f220 := Tryz.func168.trans (congrArg some (w110_))
  f224 := Tryz.func214.trans (congrArg some (w110_))
  f225 := Tryz.func213.trans (congrArg some (w110_))
  f266 := Tryz.func231.trans (congrArg some (w110_))
  f267 := Tryz.func215.trans (congrArg some (w110_))
  f314 := Tryz.func232.trans (congrArg some (w110_))
  t3 := Tryz.underlying3
  a3 := Tryz.isAgg3
  z3 := Tryz.sizeOf3
  v3 := Tryz.zeroValue3
  t4 := Tryz.underlying4
  a4 := Tryz.isAgg4
  z4 := Tryz.sizeOf4
  v4 := Tryz.zeroValue4
  t5 := Tryz.underlying5
  a5 := Tryz.isAgg5
  z5 := Tryz.sizeOf5
  v5 := Tryz.zeroValue5
  t9 := Tryz.underlying9
  a9 := Tryz.isAgg9
  z9 := Tryz.sizeOf9
  v9 := Tryz.zeroValue9
  t46 := Tryz.underlying178
  a46 := Tryz.isAgg178
  z46 := Tryz.sizeOf178
  v46 := Tryz.zeroValue178
  t51 := Tryz.underlying205
  a51 := Tryz.isAgg205
  z51 := Tryz.sizeOf205
  v51 := Tryz.zeroValue205
  t59 := Tryz.underlying116
  a59 := Tryz.isAgg116
  z59 := Tryz.sizeOf116
  v59 := Tryz.zeroValue116
  t146 := Tryz.underlying206
  a146 := Tryz.isAgg206
  z146 := Tryz.sizeOf206
  v146 := Tryz.zeroValue206
  g1 := w110_ }

open Go.RowKit Go.Lib in
theorem Tryz.strings_Cut (s sep : ByteArray) (m : Int) (w : World) (hs : s.size < 4294967281) (hm : w.cell? ⟨0, 0, none⟩ = some (.int .i64 m)) :
    Calls Tryz.prog 109 #[.string s, .string sep] w fun e w' => e = .returned (.tuple #[.string ⟨(Lib.cut s.data.toList sep.data.toList).1.toArray⟩, .string ⟨(Lib.cut s.data.toList sep.data.toList).2.1.toArray⟩, .bool (Lib.cut s.data.toList sep.data.toList).2.2]) ∧ ∃ n, w' = w.drewN n := Any.strings_Cut Tryz.lays145 s sep m w hs hm

def Tryz.lays147_ren : Go.Shelf.Ren := ⟨fun | 147 => 141 | 221 => 179 | 268 => 201 | 138 => 202 | 143 => 203 | 195 => 221 | 197 => 222 | 218 => 223 | 219 => 192 | 260 => 237 | 217 => 212 | 225 => 213 | 224 => 214 | 267 => 215 | 266 => 231 | 314 => 232 | n => n, fun | 9 => 9 | 3 => 3 | 31 => 141 | 4 => 4 | 0 => 0 | 105 => 198 | 21 => 21 | 5 => 5 | 46 => 178 | 119 => 219 | 139 => 222 | 138 => 221 | 146 => 206 | 51 => 205 | n => n, fun | 1 => 0 | 3 => 4 | 4 => 5 | n => n⟩

theorem Tryz.lays147 : Go.Proofs.Lays.n147 Tryz.prog Tryz.lays147_ren := {
  mixed := by kernel_rfl
  f138 := Tryz.func202.trans (congrArg some (w110_))
  f143 := Tryz.func203.trans (congrArg some (w110_))
  f147 := Tryz.func141.trans (congrArg some (w110_))
  f195 := Tryz.func221.trans (congrArg some (w110_))
  f197 := Tryz.func222.trans (congrArg some (w110_))
  f217 := Tryz.func212.trans (congrArg some (w110_))
  f218 := Tryz.func223.trans (congrArg some (w110_))
  f219 := Tryz.func192.trans (congrArg some (w110_))
  f221 := Tryz.func179.trans (congrArg some (w110_))
  f224 := Tryz.func214.trans (congrArg some (w110_))
  f225 := Tryz.func213.trans (congrArg some (w110_))
  f260 := Tryz.func237.trans (congrArg some (w110_))
  f266 := Tryz.func231.trans (congrArg some (w110_))
  f267 := Tryz.func215.trans (congrArg some (w110_))
  f268 := Tryz.func201.trans (congrArg some (w110_))
  f314 := Tryz.func232.trans (congrArg some (w110_))
  t0 := Tryz.underlying0
  a0 := Tryz.isAgg0
  z0 := Tryz.sizeOf0
  v0 := Tryz.zeroValue0
  t3 := Tryz.underlying3
  a3 := Tryz.isAgg3
  z3 := Tryz.sizeOf3
  v3 := Tryz.zeroValue3
  t4 := Tryz.underlying4
  a4 := Tryz.isAgg4
  z4 := Tryz.sizeOf4
  v4 := Tryz.zeroValue4
  t5 := Tryz.underlying5
  a5 := Tryz.isAgg5
  z5 := Tryz.sizeOf5
  v5 := Tryz.zeroValue5
  t9 := Tryz.underlying9
  a9 := Tryz.isAgg9
  z9 := Tryz.sizeOf9
  v9 := Tryz.zeroValue9
  t21 := Tryz.underlying21
  a21 := Tryz.isAgg21
  z21 := Tryz.sizeOf21
  v21 := Tryz.zeroValue21
  t31 := Tryz.underlying141
  a31 := Tryz.isAgg141
  z31 := Tryz.sizeOf141
  v31 := Tryz.zeroValue141
  t46 := Tryz.underlying178
  a46 := Tryz.isAgg178
  z46 := Tryz.sizeOf178
  v46 := Tryz.zeroValue178
  t51 := Tryz.underlying205
  a51 := Tryz.isAgg205
  z51 := Tryz.sizeOf205
  v51 := Tryz.zeroValue205
  t105 := Tryz.underlying198
  a105 := Tryz.isAgg198
  z105 := Tryz.sizeOf198
  v105 := Tryz.zeroValue198
  t119 := Tryz.underlying219
  a119 := Tryz.isAgg219
  z119 := Tryz.sizeOf219
  t138 := Tryz.underlying221
  a138 := Tryz.isAgg221
  z138 := Tryz.sizeOf221
  v138 := Tryz.zeroValue221
  t139 := Tryz.underlying222
  a139 := Tryz.isAgg222
  z139 := Tryz.sizeOf222
  v139 := Tryz.zeroValue222
  t146 := Tryz.underlying206
  a146 := Tryz.isAgg206
  z146 := Tryz.sizeOf206
  v146 := Tryz.zeroValue206
  g1 := by kernel_rfl
  g3 := by kernel_rfl
  g4 := w110_ }

open Go.RowKit Go.Lib in
theorem Tryz.strings_SplitN (s sep : ByteArray) (n : Nat) (m : Int) (w : World) (hs : s.size < 4294967281) (hm : w.cell? ⟨0, 0, none⟩ = some (.int .i64 m)) (h1 : 1 ≤ sep.size) (hn : 1 ≤ n) (hn63 : n ≤ 9223372036854775807) :
    Calls Tryz.prog 141 #[.string s, .string sep, .int .i64 n] w fun e w' =>
      e = .returned (.slice (some ⟨w.heap.size, 0, none⟩) (Lib.splitB sep 0 (min n (s.size + 1) - 1) s).length (min n (s.size + 1))) ∧ w' = w.alloc (.cells (Lib.cellsOf (Lib.splitB sep 0 (min n (s.size + 1) - 1) s) (min n (s.size + 1))) 9) := Any.strings_SplitN Tryz.lays147 (w110_) s sep n m w hs hm h1 hn hn63

end Go.Proofs.YtppbpefehpbejaaGreatDoor
end

section
namespace Go.Proofs.YtppbpefehpbejaaGreatDoor.P
open Go.ChangeShapes Go.WideShapes Go.RowKit Go.Proofs.YtppbpefehpbejaaGreatDoorW.PrintWords Go.Proofs.YtppbpefehpbejaaGreatDoorW.PrintLast Go.Proofs.YtppbpefehpbejaaGreatDoorW.PrintMore
set_option linter.unusedVariables false

def TabW (w : World) : Prop := Lib.TabIs Tryz.prog w "internal/strconv.uint64pow10" .u64 Lib.pow10Tab
theorem pow_named : Tryz.prog.globalNamed "internal/strconv.uint64pow10" = some ((Tryz.prog.globalNamed "internal/strconv.uint64pow10").getD 0) := by kernel_rfl
theorem tabW_below {w w' : World} (h : TabW w) (hb : Below w.heap.size w w') : TabW w' := by
  have hg := pow_named
  generalize (Tryz.prog.globalNamed "internal/strconv.uint64pow10").getD 0 = g at hg
  unfold TabW Lib.TabIs World.var? at h ⊢
  rw [hg, Option.bind_some] at h ⊢
  rcases Nat.lt_or_ge g w.heap.size with hlt | hge
  · rw [hb.block g hlt]
    exact h
  · rw [Array.getElem?_eq_none hge] at h
    cases h
set_option maxRecDepth 100000 in
theorem tabW_of_laid {l : List (String × DataW Unit)} {W : World} (h : laidMetH Tryz.prog l W) (hf : (l.filter fun x => x.1 == "internal/strconv.uint64pow10") = [("internal/strconv.uint64pow10", Lib.tabData .u64 Lib.pow10Tab)]) : TabW W := by
  have h1 := h.filter (fun x => x.1 == "internal/strconv.uint64pow10")
  rw [hf, Go.MakeChecks.laidMetH_plain _ _ _ (w110_)] at h1
  exact Lib.tabIs_of_head (t := ((Tryz.prog.globals[(Tryz.prog.globalNamed "internal/strconv.uint64pow10").getD 0]?).map (·.type)).getD 0) (n := 20) (e := 97) pow_named (w110_) (w110_) Tryz.underlying97 (w110_) (w110_) h1
def ErrAt (g : Nat) (w : World) : Prop := ∃ ev, w.cell? ⟨g, 0, none⟩ = some ev ∧ (ev = .nilIface ∨ ∃ te pe, ev = .iface te pe)
def LibW (w : World) : Prop := TabW w ∧ (∃ m, w.cell? ⟨0, 0, none⟩ = some (.int .i64 m)) ∧ ErrAt 1 w ∧ ErrAt 2 w
theorem cell_lt {w : World} {g : Nat} {v : Value} (h : w.cell? ⟨g, 0, none⟩ = some v) : g < w.heap.size := by
  rcases Nat.lt_or_ge g w.heap.size with hlt | hge
  · exact hlt
  · unfold World.cell? at h
    simp only [Array.getElem?_eq_none hge] at h
    simp at h
theorem cell_stays {w w' : World} {g : Nat} {v : Value} (h : w.cell? ⟨g, 0, none⟩ = some v) (hb : Below w.heap.size w w') : w'.cell? ⟨g, 0, none⟩ = some v :=
  (hb.cell (p := ⟨g, 0, none⟩) (cell_lt h)).trans h
theorem errAt_below {g : Nat} {w w' : World} (h : ErrAt g w) (hb : Below w.heap.size w w') : ErrAt g w' := by
  obtain ⟨ev, h1, h2⟩ := h
  exact ⟨ev, cell_stays h1 hb, h2⟩
theorem libW_below {w w' : World} (h : LibW w) (hb : Below w.heap.size w w') : LibW w' := by
  obtain ⟨h1, ⟨m, h2⟩, h3, h4⟩ := h
  exact ⟨tabW_below h1 hb, ⟨m, cell_stays h2 hb⟩, errAt_below h3 hb, errAt_below h4 hb⟩
theorem starN : "*" ++ "errors.errorString" = "*errors.errorString" := by decide
theorem row_err (u : TypeId) (h : Tryz.prog.typeName? 3 u = some "*errors.errorString") : u = 210 :=
  typeName_ptr_named (nm := "errors.errorString") (by rw [starN]; kernel_rfl) (w110_) (by decide) u (by rw [starN]; exact h)
set_option maxRecDepth 100000 in
theorem errS_of_laid {l : List (String × DataW Unit)} {W : World} (h : laidMetH Tryz.prog l W) (hf : (l.filter fun x => x.1 == "strconv.ErrSyntax") = [("strconv.ErrSyntax", .iface "*errors.errorString" (.ptr (.agg [.lit (.string [105, 110, 118, 97, 108, 105, 100, 32, 115, 121, 110, 116, 97, 120])])))]) : ErrAt 1 W := by
  have h1 := h.filter (fun x => x.1 == "strconv.ErrSyntax")
  rw [hf, Go.MakeChecks.laidMetH_plain _ _ _ (w110_)] at h1
  have hg : Tryz.prog.globalNamed "strconv.ErrSyntax" = some 1 := by kernel_rfl
  obtain ⟨a, s, hv, _⟩ := laid_sentinel (te := 212) h1 hg (w110_) Tryz.underlying120 row_err Tryz.underlying210 Tryz.underlying212 rfl rfl Tryz.underlying9 (w110_) (w110_)
  exact ⟨_, by have := World.var?_cell hg hv 0; simpa using this, .inr ⟨_, _, rfl⟩⟩
set_option maxRecDepth 100000 in
theorem errR_of_laid {l : List (String × DataW Unit)} {W : World} (h : laidMetH Tryz.prog l W) (hf : (l.filter fun x => x.1 == "strconv.ErrRange") = [("strconv.ErrRange", .iface "*errors.errorString" (.ptr (.agg [.lit (.string [118, 97, 108, 117, 101, 32, 111, 117, 116, 32, 111, 102, 32, 114, 97, 110, 103, 101])])))]) : ErrAt 2 W := by
  have h1 := h.filter (fun x => x.1 == "strconv.ErrRange")
  rw [hf, Go.MakeChecks.laidMetH_plain _ _ _ (w110_)] at h1
  have hg : Tryz.prog.globalNamed "strconv.ErrRange" = some 2 := by kernel_rfl
  obtain ⟨a, s, hv, _⟩ := laid_sentinel (te := 212) h1 hg (w110_) Tryz.underlying120 row_err Tryz.underlying210 Tryz.underlying212 rfl rfl Tryz.underlying9 (w110_) (w110_)
  exact ⟨_, by have := World.var?_cell hg hv 0; simpa using this, .inr ⟨_, _, rfl⟩⟩
theorem libW_of {l : List (String × DataW Unit)} {W : World} (h : laidMetH Tryz.prog l W) (hS : W.ShapedOpen Tryz.prog) (hf : (l.filter fun x => x.1 == "internal/strconv.uint64pow10") = [("internal/strconv.uint64pow10", Lib.tabData .u64 Lib.pow10Tab)])
    (hs : (l.filter fun x => x.1 == "strconv.ErrSyntax") = [("strconv.ErrSyntax", .iface "*errors.errorString" (.ptr (.agg [.lit (.string [105, 110, 118, 97, 108, 105, 100, 32, 115, 121, 110, 116, 97, 120])])))])
    (hr : (l.filter fun x => x.1 == "strconv.ErrRange") = [("strconv.ErrRange", .iface "*errors.errorString" (.ptr (.agg [.lit (.string [118, 97, 108, 117, 101, 32, 111, 117, 116, 32, 111, 102, 32, 114, 97, 110, 103, 101])])))]) : LibW W :=
  ⟨tabW_of_laid h hf,
   cell_of_shapedOpen_int (zero := #[.int .i64 0]) (t := 3) hS (of_decide_eq_true (w110_)) (w110_) rfl (w110_) (w110_) Tryz.underlying3,
   errS_of_laid h hs, errR_of_laid h hr⟩
theorem lift_shaped {H : Type} {enc : TypeId × Value → H} {a : Assume} {C : Checked} {os : Os} {f : FuncId} {fn : Func} {s : ChangeSpec} {conds : List PathCond} {apart fresh handsOn again : Bool} {X : World → Array Value → Prop}
    (hX : ∀ (w w' : World) (args : Array Value), w.heap = w'.heap → X w args → X w' args)
    (own : ownKnob C.prog.godebug = none) (started : os.Started) (noInit : C.prog.inits.idxOf? f = none) (hfn : C.prog.funcs[f]? = some fn)
    (witness : ∃ (w : World) (tape : Tape) (i : Input), w.os = os ∧ (w.forCall tape i).Shaped C.prog ∧ i.vars = [] ∧ Input.okWide C.prog (w.forCall tape i) .any w.heap.size f i ∧
      ((s.pre enc C.prog fn conds apart (w.forCall tape i).memory i.args ∧ X (w.forCall tape i).memory i.args) ∧ sizedMet enc C.prog fn (OpenSpec.ofChange s) apart (w.forCall tape i).memory i.args) ∧ a.holds C.prog (lone (Frame.enter C.prog f i.args .normal) [] (w.forCall tape i)))
    (contract : ∀ (W : World) (base : Nat) (args : Array Value) (ds gs : List (DataW H)) (before : List MemPlace), W.ShapedOpen C.prog →
      (∀ (j : Nat) t v, fn.params[j]? = some t → args[j]? = some v → Value.okWide C.prog W .any base t v) →
      DataW.Whole enc C.prog fn.params.toList s.vars apart W args.toList ds gs before →
      conds.all (PathCond.test C.prog ⟨fn.params.toList, ds, s.plain.varTypes C.prog, gs⟩) = true →
      (DataW.weightsEach C.prog (fn.params.toList ++ s.plain.varTypes C.prog) (ds ++ gs)).all (· ≤ reachBytes) = true → X W args →
      a.holds C.prog (lone (Frame.enter C.prog f args .normal) [] W) →
      Calls C.prog f args W fun e W' => ∃ v, e = .returned v ∧ s.post enc C.prog fn apart fresh handsOn again W args v W') :
    ReturnsInHanded a C os f .any (fun w args => (s.pre enc C.prog fn conds apart w args ∧ X w args) ∧ sizedMet enc C.prog fn (OpenSpec.ofChange s) apart w args) (s.post enc C.prog fn apart fresh handsOn again) := by
  refine returnsInHanded_of_calls own started noInit witness ?_
  intro w tape i _ hsh _ hok hpre hholds
  obtain ⟨_, _, _, fn', hfn', _, _, _, _, hval⟩ := hok
  have e : fn' = fn := Option.some.inj (hfn'.symm.trans hfn)
  subst e
  obtain ⟨⟨⟨ds, gs, before, hw, hc⟩, hx⟩, hz⟩ := hpre
  have hw' := DataW.Whole.of_heap (w' := w.forCall tape i) (by rfl) hw
  refine (contract (w.forCall tape i) w.heap.size i.args ds gs before hsh hval hw' hc (hz.weights hw) (hX _ _ _ (by rfl) hx) hholds).mono fun e W' ⟨v, he, hp⟩ => ?_
  subst he
  exact ChangeSpec.post_blind hp
def itoa.f (n : Int) : Option ByteArray := if -9223372036854775808 ≤ n ∧ n ≤ 9223372036854775807 then some ⟨(Lib.itoa n).toArray⟩ else none
theorem itoa.calls (n : Int) (r : ByteArray) (w : World) (hT : LibW w) (h : itoa.f n = some r) :
    Calls Tryz.prog 166 #[.int .i64 n] w fun e w' => e = .returned (.string r) ∧ Below w.heap.size w w' := by
  unfold itoa.f at h
  by_cases hn : -9223372036854775808 ≤ n ∧ n ≤ 9223372036854775807
  · rw [if_pos hn] at h
    obtain rfl := Option.some.inj h
    refine (Tryz.strconv_Itoa n hn.1 hn.2 w hT.1).mono fun e w' he => ?_
    obtain ⟨rfl, k, os, rfl⟩ := he
    exact ⟨rfl, Lib.below_grow _ w (Nat.le_refl _) k os⟩
  · rw [if_neg hn] at h
    cases h
def ErrIs : Option Int → Value → Prop
  | none, ev => ev = .nilIface
  | some _, ev => ∃ N, ev = .iface 175 (.pointer (some ⟨N, 0, none⟩))
def atoi.f (s : ByteArray) : Option (Int × Option Int) :=
  if s.size ≤ 281474976710656 then (match Lib.atoiAll s.data.toList with | .ok v => some (v, none) | .range => some (Lib.atoiSat s.data.toList, some 0) | _ => some (0, some 0)) else none
theorem atoi.calls (s : ByteArray) (r1 : Int) (r2 : Option Int) (w : World) (hT : LibW w) (h : atoi.f s = some (r1, r2)) :
    Calls Tryz.prog 111 #[.string s] w fun e w' => ∃ ev, e = .returned (.tuple #[.int .i64 r1, ev]) ∧ ErrIs r2 ev ∧ Below w.heap.size w w' := by
  unfold atoi.f at h
  by_cases hn : s.size ≤ 281474976710656
  · rw [if_pos hn] at h
    cases ha : Lib.atoiAll s.data.toList with
    | ok v =>
      simp only [ha, Option.some.injEq, Prod.mk.injEq] at h
      obtain ⟨rfl, rfl⟩ := h
      refine (Tryz.strconv_Atoi_ok s (by omega) v ha w).mono fun e w' ⟨he, hw⟩ => ⟨.nilIface, he, rfl, ?_⟩
      rcases hw with rfl | ⟨t, rfl⟩
      · exact Below.refl _ _
      · exact bytes_below (Below.refl _ _) (Nat.le_refl _) _ _
    | range =>
      simp only [ha, Option.some.injEq, Prod.mk.injEq] at h
      obtain ⟨rfl, rfl⟩ := h
      obtain ⟨ev, h1, h2⟩ := hT.2.2.2
      exact (Tryz.strconv_Atoi_range s hn ha ev w h1 h2).mono fun e w' ⟨N, he, _, _, hb⟩ => ⟨_, he, ⟨N, rfl⟩, hb⟩
    | _ =>
      simp only [ha, Option.some.injEq, Prod.mk.injEq] at h
      obtain ⟨rfl, rfl⟩ := h
      obtain ⟨ev, h1, h2⟩ := hT.2.2.1
      exact (Any.strconv_Atoi_syntax Tryz.laysC172 s hn ha ev w h1 h2).mono fun e w' ⟨N, he, _, _, hb⟩ => ⟨_, he, ⟨N, rfl⟩, hb⟩
  · rw [if_neg hn] at h
    cases h
def splitn.f (s sep : ByteArray) (n : Int) : Option (List ByteArray) :=
  if s.size < 4294967281 ∧ 1 ≤ sep.size ∧ 1 ≤ n ∧ n ≤ 9223372036854775807 then some (Lib.splitB sep 0 (min n.toNat (s.size + 1) - 1) s) else none
theorem row_new {w : World} {g base cap : Nat} {xs : List ByteArray} (h : w.heap[g]? = some (.cells (Lib.cellsOf xs cap) 9 (0, 0))) (hb : base ≤ g) (hc : xs.length ≤ cap) (hm : cap ≤ 4294967282) : Kd.R Kd.string 9 w base (fun _ => True) (.slice (some ⟨g, 0, none⟩) xs.length cap) xs := by
  have ho : w.ownsRow base 9 1 (.slice (some ⟨g, 0, none⟩) xs.length cap) xs.length (encs Value.string xs) := by
    refine ⟨?_, .inr ⟨g, cap, _, rfl, hb, h, ?_, by unfold maxLen; omega, ?_, ?_⟩⟩
    · rw [encs, List.length_map, Nat.mul_one]
    · exact hc
    · rw [Lib.cellsOf_size hc, Nat.mul_one]
    · unfold Lib.cellsOf
      rw [encs, Nat.mul_one, List.toList_toArray, List.take_append_of_le_length (by rw [List.length_map]; exact Nat.le_refl _), List.take_of_length_le (by rw [List.length_map]; exact Nat.le_refl _)]
  exact Kd.R_of_own ho (fun _ _ => trivial)
theorem splitn.calls (s sep : ByteArray) (n : Int) (r : List ByteArray) (w : World) (hT : LibW w) (h : splitn.f s sep n = some r) :
    Calls Tryz.prog 141 #[.string s, .string sep, .int .i64 n] w fun e w' => ∃ v0_ : Value, e = .returned (v0_) ∧ Kd.R Kd.string 9 w' w.heap.size (fun _ => True) v0_ r ∧ Below w.heap.size w w' := by
  unfold splitn.f at h
  by_cases hn : s.size < 4294967281 ∧ 1 ≤ sep.size ∧ 1 ≤ n ∧ n ≤ 9223372036854775807
  · rw [if_pos hn] at h
    obtain rfl := Option.some.inj h
    obtain ⟨h1, h2, h3, h4⟩ := hn
    obtain ⟨m, hm⟩ := hT.2.1
    have hN := Tryz.strings_SplitN s sep n.toNat m w h1 hm h2 (by omega) (by omega)
    rw [show ((n.toNat : Nat) : Int) = n by omega] at hN
    refine hN.mono fun e w' ⟨he, hw⟩ => ⟨_, he, ?_, ?_⟩
    · subst hw
      have hl := Lib.splitB_length_le sep 0 (min n.toNat (s.size + 1) - 1) s
      exact row_new (by unfold World.alloc; simp) (Nat.le_refl _) (by omega) (by omega)
    · subst hw
      exact (Below.refl _ _).alloc (Nat.le_refl _) _
  · rw [if_neg hn] at h
    cases h
end Go.Proofs.YtppbpefehpbejaaGreatDoor.P
end

section
namespace Go.Proofs.YtppbpefehpbejaaGreatDoor.P
open Go.RowKit Go.Proofs.YtppbpefehpbejaaGreatDoorW.PrintWords Go.Proofs.YtppbpefehpbejaaGreatDoorW.PrintLast Go.Proofs.YtppbpefehpbejaaGreatDoorW.PrintMore
attribute [local go_sem] max2_int min2_int max_two min_two max_three min_three max_four min_four   -- for this text's walks alone
set_option linter.unusedVariables false
set_option linter.unusedSimpArgs false

def impl_shortRange.l0 : Nat → ByteArray → ByteArray → Int → Option (ByteArray)
 | 0, _, _, _ => none
 | k + 1, x3, x4, x5 => if (x3.size : Int) = (x4.size : Int) then (if 0 ≤ x5 then (if x5 < (x3.size : Int) then (if x5 < (x4.size : Int) then (if (bt x3 x5) = (bt x4 x5) then (impl_shortRange.l0 k x3 x4 (wrap64 (x5 + 1))) else (if x3.size + 1 ≤ 9223372036854775807 then (if x5 ≤ (x4.size : Int) then (if (x3 ++ (⟨#[45]⟩ : ByteArray)).size + (x4.extract (x5 : Int).toNat x4.size).size ≤ 9223372036854775807 then (some ((x3 ++ (⟨#[45]⟩ : ByteArray)) ++ (x4.extract (x5 : Int).toNat x4.size))) else (none)) else (none)) else (none))) else (none)) else (none)) else (none)) else (if x3.size + 1 ≤ 9223372036854775807 then (if 0 ≤ x5 then (if x5 ≤ (x4.size : Int) then (if (x3 ++ (⟨#[45]⟩ : ByteArray)).size + (x4.extract (x5 : Int).toNat x4.size).size ≤ 9223372036854775807 then (some ((x3 ++ (⟨#[45]⟩ : ByteArray)) ++ (x4.extract (x5 : Int).toNat x4.size))) else (none)) else (none)) else (none)) else (none))
def impl_shortRange.f (k : Nat) (a0_0 : Int) (a0_1 : Int) : Option (ByteArray) := (itoa.f a0_0).bind fun t339 => ((itoa.f a0_1).bind fun t340 => (if a0_0 = a0_1 then (some t339) else (impl_shortRange.l0 k t339 t340 0)))
def impl_shortRange.T1 : Bool × List (List Nat × List Nat) := (true, [([], []), ([0], [0]), ([1], [1]), ([], []), ([3], [3]), ([4, 2], [4]), ([2, 5, 0, 1, 2], [2]), ([5, 6, 0, 1, 2, 3, 4, 5, 6], [5])])
def impl_shortRange.B1 : List Nat := [0, 1, 3, 0, 8, 31, 63, 127]
theorem impl_shortRange.tab1 : rtab .any (opsOf Tryz.f176 1) = impl_shortRange.T1 := by kernel_rfl
theorem impl_shortRange.bits1 : waitsOk impl_shortRange.T1.2 impl_shortRange.B1 = true := by kernel_rfl
def impl_shortRange.T5 : Bool × List (List Nat × List Nat) := (true, [([], []), ([0], [0]), ([], []), ([2], [2]), ([1, 3], [1, 3]), ([4], [4]), ([5], [5]), ([5], [5]), ([6, 7, 5], [5, 6, 7]), ([5], [5]), ([5], [5]), ([9, 10, 5], [5, 9, 10]), ([8, 11, 5], [5, 8, 11]), ([5, 12], [5, 12])])
def impl_shortRange.B5 : List Nat := [0, 1, 0, 4, 15, 31, 63, 63, 255, 63, 63, 1599, 4095, 8191]
theorem impl_shortRange.tab5 : rtab .any (opsOf Tryz.f176 5) = impl_shortRange.T5 := by kernel_rfl
theorem impl_shortRange.bits5 : waitsOk impl_shortRange.T5.2 impl_shortRange.B5 = true := by kernel_rfl
set_option maxHeartbeats 8000000 in
set_option maxRecDepth 100000 in
theorem impl_shortRange.calls (k : Nat) (a0_0 : Int) (a0_1 : Int) (r : ByteArray) (w : World) (hT : LibW w) (h : impl_shortRange.f k a0_0 a0_1 = some r) :
  Calls Tryz.prog 176 #[.agg #[.int .i64 a0_0, .int .i64 a0_1]] w fun e w' => e = .returned (.string r) ∧ Below w.heap.size w w' := by
 have HTAB := Az_ hT
 clear hT
 have hu69 := Tryz.underlying69
 have HB := Az_ (Below.refl w.heap.size w)
 have H : ((itoa.f a0_0).bind fun t339 => ((itoa.f a0_1).bind fun t340 => (if a0_0 = a0_1 then (some t339) else (impl_shortRange.l0 k t339 t340 0)))) = some r := h
 clear h
 replace H := bqz_ H; obtain ⟨t339, A2, H⟩ := H
 replace H := bqz_ H; obtain ⟨t340, A3, H⟩ := H
 replace H : (if a0_0 = a0_1 then (some t339) else (impl_shortRange.l0 k t339 t340 0)) = some r := H
 by_cases c4 : a0_0 = a0_1
 ·rw [if_pos c4] at H
  have c4b0 : (a0_0 == a0_1) = true := beq_iff_eq.mpr c4
  have c4b1 : (a0_0 != a0_1) = false := bne_eq_false_iff_eq.mpr c4
  clear c4
  obtain rfl := Option.some.inj H
  go_enter Tryz.func176, Tryz.ntmps176
  try go_wp2_with (first | ((with_reducible refine gate_dst (N := 1) rfl ?_); refine box_event ?hg (N := 1) ?hd (cs := #[.int .i64 a0_0, .int .i64 a0_1]) (t := 69) ?hr ?_; (case hd => rfl); (case hg => rfl); (case hr => first | (go_simp; done) | (go_simp; rfl)); intro gb338 hg w5 hbox hb; have BK338 := Az_ (hbox); have GW338 := Az_ ((by rw [hg]; exact (below_size (ubz_ HB.out)) : w.heap.size ≤ gb338)); have GE338 := Az_ ((by rw [hg]; exact (below_size (ubz_ HB.out)) : w.heap.size ≤ gb338)); replace HB := Az_ (btz_ (ubz_ HB.out) hb); clear hb hbox hg))
  have n0_ := Az_ (kdz_ BK338.out)
  have n1_ := Az_ (bdz_ HB.out)
  clear BK338 HB
  have BK338 := n0_
  have HB := n1_
  clear n0_ n1_
  refine start_ (n := 8) (S := fun w' => w'.cell? ⟨gb338, 0, none⟩ = some (.int .i64 a0_0) ∧ w'.cell? ⟨gb338, 1, none⟩ = some (.int .i64 a0_1)) (ds := []) #[false, false, false, false, false, false, false, false] (w110_) rfl rfl ⟨(blk_cell BK338.out 0).trans rfl, (blk_cell BK338.out 1).trans rfl⟩ (fun hHeld => ?_); refine with_tabW impl_shortRange.tab1 impl_shortRange.bits1 (fun HT_ HW_ => ?_)
  generalize w5.drew = w6 at BK338 HB hHeld ⊢
  refine pure_ (i := 0) (N := some 6) (v := ?_) (a' := ?_) (mz_ [1,7]) rfl rfl (any_of HT_.out (w110_)) (fun _ _ _ h => h) (Or.inl ⟨by rfl, ?_⟩) ?_ ?_
  rotate_left
  ·intro w'
   go_simp
   with_reducible rfl
  rotate_left
  ·simp only [Act.put, usz_, utz_, uvz_, i64_w, i32_w]
   rfl
  refine pure_ (i := 3) (N := some 9) (v := ?_) (a' := ?_) (mz_ [1,2,1,4]) rfl rfl (any_of HT_.out (w110_)) (fun _ _ _ h => h) (Or.inl ⟨by rfl, ?_⟩) ?_ ?_
  rotate_left
  ·intro w'
   go_simp
   with_reducible rfl
  rotate_left
  ·simp only [Act.put, usz_, utz_, uvz_, i64_w, i32_w]
   rfl
  refine take_ (i := 1) (N := some 7) (v := ?_) (a' := ?_) (mz_ [2,1,1,4]) rfl rfl (take_ofW HT_.out HW_.out (w110_)) (fun _ _ _ h => h) (Or.inl ⟨by rfl, ?_⟩) hHeld ?_ ?_
  rotate_left
  ·rintro w' ⟨s0, s1⟩
   go_simp
   with_reducible rfl
  rotate_left
  ·simp only [Act.put, usz_, utz_, uvz_, i64_w, i32_w]
   rfl
  refine take_ (i := 4) (N := some 10) (v := ?_) (a' := ?_) (mz_ [2,1,2,3]) rfl rfl (take_ofW HT_.out HW_.out (w110_)) (fun _ _ _ h => h) (Or.inl ⟨by rfl, ?_⟩) hHeld ?_ ?_
  rotate_left
  ·rintro w' ⟨s0, s1⟩
   go_simp
   with_reducible rfl
  rotate_left
  ·simp only [Act.put, usz_, utz_, uvz_, i64_w, i32_w]
   rfl
  refine one_ (i := 2) (N := some 8) (mz_ [5,3]) rfl rfl (one_of HT_.out (w110_)) (by decide) (fun K hK => ?_)
  refine goes_ Tryz.func166 (w110_) rfl #[.int .i64 a0_0] (by rfl) rfl rfl maz_ ?_
  with_reducible refine (itoa.calls a0_0 t339 _ (libW_below HTAB.out (w40_)) A2.out).mono ?_
  rintro e w7 ⟨rfl, hb⟩
  refine ⟨_, rfl, ?_⟩
  have n1_ := Az_ (btz_ (w40_) hb)
  clear HB
  replace BK338 := Az_ (ukbz_ BK338.out hb)
  have HB := n1_
  clear n1_
  clear hb
  refine hK.out _ _ ⟨(blk_cell BK338.out 0).trans rfl, (blk_cell BK338.out 1).trans rfl⟩ (fun hHeld => ?_)
  clear hK K
  refine norm_ (a' := ?_) ?_ ?_
  rotate_left
  ·show Act.put _ (some 8) _ = _
   simp only [Act.put, usz_, utz_, uvz_, i64_w, i32_w]
   rfl
  refine one_ (i := 5) (N := some 11) (mz_ [6,2]) rfl rfl (one_of HT_.out (w110_)) (by decide) (fun K hK => ?_)
  refine goes_ Tryz.func166 (w110_) rfl #[.int .i64 a0_1] (by rfl) rfl rfl maz_ ?_
  with_reducible refine (itoa.calls a0_1 t340 _ (libW_below HTAB.out (w40_)) A3.out).mono ?_
  rintro e w8 ⟨rfl, hb⟩
  refine ⟨_, rfl, ?_⟩
  have n1_ := Az_ (btz_ (w40_) hb)
  clear HB
  replace BK338 := Az_ (ukbz_ BK338.out hb)
  have HB := n1_
  clear n1_
  clear hb
  refine hK.out _ _ ⟨(blk_cell BK338.out 0).trans rfl, (blk_cell BK338.out 1).trans rfl⟩ (fun hHeld => ?_)
  clear hK K
  refine norm_ (a' := ?_) ?_ ?_
  rotate_left
  ·show Act.put _ (some 11) _ = _
   simp only [Act.put, usz_, utz_, uvz_, i64_w, i32_w]
   rfl
  refine pure_ (i := 6) (N := some 3) (v := ?_) (a' := ?_) (mz_ [7,1]) rfl rfl (any_of HT_.out (w110_)) (fun _ _ _ h => h) (Or.inl ⟨by rfl, ?_⟩) ?_ ?_
  rotate_left
  ·intro w'
   go_simp
   with_reducible rfl
  rotate_left
  ·simp only [Act.put, usz_, utz_, uvz_, i64_w, i32_w]
   rfl
  refine pure_ (i := 7) (N := some 4) (v := ?_) (a' := ?_) (mz_ [8]) rfl rfl (any_of HT_.out (w110_)) (fun _ _ _ h => h) (Or.inl ⟨by rfl, ?_⟩) ?_ ?_
  rotate_left
  ·intro w'
   go_simp
   with_reducible rfl
  rotate_left
  ·simp only [Act.put, usz_, utz_, uvz_, i64_w, i32_w]
   rfl
  refine done_ (done_of HT_.out (w110_)) ?_
  have hcz9_0 : w8.cell? ⟨gb338, 0, none⟩ = some (.int .i64 a0_0) := (blk_cell BK338.out 0).trans rfl
  have hcz9_1 : w8.cell? ⟨gb338, 1, none⟩ = some (.int .i64 a0_1) := (blk_cell BK338.out 1).trans rfl
  have hfz9_0 := blk_frozen BK338.out 0
  have hfz9_1 := blk_frozen BK338.out 1
  try go_wp2
  go_ret
  exact ⟨w61_, w40_⟩
 ·rw [if_neg c4] at H
  have c4b0 : (a0_0 == a0_1) = false := beq_eq_false_iff_ne.mpr c4
  have c4b1 : (a0_0 != a0_1) = true := bne_iff_ne.mpr c4
  have H' := Az_ H
  clear H
  go_enter Tryz.func176, Tryz.ntmps176
  try go_wp2_with (first | ((with_reducible refine gate_dst (N := 1) rfl ?_); refine box_event ?hg (N := 1) ?hd (cs := #[.int .i64 a0_0, .int .i64 a0_1]) (t := 69) ?hr ?_; (case hd => rfl); (case hg => rfl); (case hr => first | (go_simp; done) | (go_simp; rfl)); intro gb338 hg w10 hbox hb; have BK338 := Az_ (hbox); have GW338 := Az_ ((by rw [hg]; exact (below_size (ubz_ HB.out)) : w.heap.size ≤ gb338)); have GE338 := Az_ ((by rw [hg]; exact (below_size (ubz_ HB.out)) : w.heap.size ≤ gb338)); replace HB := Az_ (btz_ (ubz_ HB.out) hb); clear hb hbox hg))
  have n0_ := Az_ (kdz_ BK338.out)
  have n1_ := Az_ (bdz_ HB.out)
  clear BK338 HB
  have BK338 := n0_
  have HB := n1_
  clear n0_ n1_
  refine start_ (n := 8) (S := fun w' => w'.cell? ⟨gb338, 0, none⟩ = some (.int .i64 a0_0) ∧ w'.cell? ⟨gb338, 1, none⟩ = some (.int .i64 a0_1)) (ds := []) #[false, false, false, false, false, false, false, false] (w110_) rfl rfl ⟨(blk_cell BK338.out 0).trans rfl, (blk_cell BK338.out 1).trans rfl⟩ (fun hHeld => ?_); refine with_tabW impl_shortRange.tab1 impl_shortRange.bits1 (fun HT_ HW_ => ?_)
  generalize w10.drew = w11 at BK338 HB hHeld ⊢
  refine pure_ (i := 0) (N := some 6) (v := ?_) (a' := ?_) (mz_ [1,7]) rfl rfl (any_of HT_.out (w110_)) (fun _ _ _ h => h) (Or.inl ⟨by rfl, ?_⟩) ?_ ?_
  rotate_left
  ·intro w'
   go_simp
   with_reducible rfl
  rotate_left
  ·simp only [Act.put, usz_, utz_, uvz_, i64_w, i32_w]
   rfl
  refine pure_ (i := 3) (N := some 9) (v := ?_) (a' := ?_) (mz_ [1,2,1,4]) rfl rfl (any_of HT_.out (w110_)) (fun _ _ _ h => h) (Or.inl ⟨by rfl, ?_⟩) ?_ ?_
  rotate_left
  ·intro w'
   go_simp
   with_reducible rfl
  rotate_left
  ·simp only [Act.put, usz_, utz_, uvz_, i64_w, i32_w]
   rfl
  refine take_ (i := 1) (N := some 7) (v := ?_) (a' := ?_) (mz_ [2,1,1,4]) rfl rfl (take_ofW HT_.out HW_.out (w110_)) (fun _ _ _ h => h) (Or.inl ⟨by rfl, ?_⟩) hHeld ?_ ?_
  rotate_left
  ·rintro w' ⟨s0, s1⟩
   go_simp
   with_reducible rfl
  rotate_left
  ·simp only [Act.put, usz_, utz_, uvz_, i64_w, i32_w]
   rfl
  refine take_ (i := 4) (N := some 10) (v := ?_) (a' := ?_) (mz_ [2,1,2,3]) rfl rfl (take_ofW HT_.out HW_.out (w110_)) (fun _ _ _ h => h) (Or.inl ⟨by rfl, ?_⟩) hHeld ?_ ?_
  rotate_left
  ·rintro w' ⟨s0, s1⟩
   go_simp
   with_reducible rfl
  rotate_left
  ·simp only [Act.put, usz_, utz_, uvz_, i64_w, i32_w]
   rfl
  refine one_ (i := 2) (N := some 8) (mz_ [5,3]) rfl rfl (one_of HT_.out (w110_)) (by decide) (fun K hK => ?_)
  refine goes_ Tryz.func166 (w110_) rfl #[.int .i64 a0_0] (by rfl) rfl rfl maz_ ?_
  with_reducible refine (itoa.calls a0_0 t339 _ (libW_below HTAB.out (w40_)) A2.out).mono ?_
  rintro e w12 ⟨rfl, hb⟩
  refine ⟨_, rfl, ?_⟩
  have n1_ := Az_ (btz_ (w40_) hb)
  clear HB
  replace BK338 := Az_ (ukbz_ BK338.out hb)
  have HB := n1_
  clear n1_
  clear hb
  refine hK.out _ _ ⟨(blk_cell BK338.out 0).trans rfl, (blk_cell BK338.out 1).trans rfl⟩ (fun hHeld => ?_)
  clear hK K
  refine norm_ (a' := ?_) ?_ ?_
  rotate_left
  ·show Act.put _ (some 8) _ = _
   simp only [Act.put, usz_, utz_, uvz_, i64_w, i32_w]
   rfl
  refine one_ (i := 5) (N := some 11) (mz_ [6,2]) rfl rfl (one_of HT_.out (w110_)) (by decide) (fun K hK => ?_)
  refine goes_ Tryz.func166 (w110_) rfl #[.int .i64 a0_1] (by rfl) rfl rfl maz_ ?_
  with_reducible refine (itoa.calls a0_1 t340 _ (libW_below HTAB.out (w40_)) A3.out).mono ?_
  rintro e w13 ⟨rfl, hb⟩
  refine ⟨_, rfl, ?_⟩
  have n1_ := Az_ (btz_ (w40_) hb)
  clear HB
  replace BK338 := Az_ (ukbz_ BK338.out hb)
  have HB := n1_
  clear n1_
  clear hb
  refine hK.out _ _ ⟨(blk_cell BK338.out 0).trans rfl, (blk_cell BK338.out 1).trans rfl⟩ (fun hHeld => ?_)
  clear hK K
  refine norm_ (a' := ?_) ?_ ?_
  rotate_left
  ·show Act.put _ (some 11) _ = _
   simp only [Act.put, usz_, utz_, uvz_, i64_w, i32_w]
   rfl
  refine pure_ (i := 6) (N := some 3) (v := ?_) (a' := ?_) (mz_ [7,1]) rfl rfl (any_of HT_.out (w110_)) (fun _ _ _ h => h) (Or.inl ⟨by rfl, ?_⟩) ?_ ?_
  rotate_left
  ·intro w'
   go_simp
   with_reducible rfl
  rotate_left
  ·simp only [Act.put, usz_, utz_, uvz_, i64_w, i32_w]
   rfl
  refine pure_ (i := 7) (N := some 4) (v := ?_) (a' := ?_) (mz_ [8]) rfl rfl (any_of HT_.out (w110_)) (fun _ _ _ h => h) (Or.inl ⟨by rfl, ?_⟩) ?_ ?_
  rotate_left
  ·intro w'
   go_simp
   with_reducible rfl
  rotate_left
  ·simp only [Act.put, usz_, utz_, uvz_, i64_w, i32_w]
   rfl
  refine done_ (done_of HT_.out (w110_)) ?_
  have hcz14_0 : w13.cell? ⟨gb338, 0, none⟩ = some (.int .i64 a0_0) := (blk_cell BK338.out 0).trans rfl
  have hcz14_1 : w13.cell? ⟨gb338, 1, none⟩ = some (.int .i64 a0_1) := (blk_cell BK338.out 1).trans rfl
  have hfz14_0 := blk_frozen BK338.out 0
  have hfz14_1 := blk_frozen BK338.out 1
  try go_wp2
  go_loopg [5] k (fun kq v5 w' => ∃ (x5_1 : Int), v5 = .int .i64 x5_1 ∧ Aside0 (impl_shortRange.l0 kq t339 t340 x5_1 = some r) ∧ Aside0 (kq ≤ k) ∧ Aside0 (w'.heap[gb338]? = some (.cells #[.int .i64 a0_0, .int .i64 a0_1] 69 (0, 0))) ∧ Aside0 (Below w.heap.size w w'))
  case atStart => exact ⟨(0), qaz_, H', ⟨Nat.le_refl _⟩, ⟨by (with_reducible repeat (first | refine knz_ ?_ _ | refine kdz_ ?_ | refine kaz_ ?_ _)); exact BK338.out⟩, ⟨w40_⟩⟩
  case round =>
   clear H'
   clear c4 c4b0 c4b1 hcz14_0 hcz14_1 hfz14_0 hfz14_1
   obtain ⟨x5_1, rfl, HA, HK1, BK338, HB⟩ := hrel
   cases gk with
   | zero => exact absurd HA.out (by simp [impl_shortRange.l0])
   | succ k1 =>
    have H := HA.out
    clear HA
    simp only [impl_shortRange.l0] at H
    by_cases c15 : (t339.size : Int) = (t340.size : Int)
    ·rw [if_pos c15] at H
     have c15b0 : ((t339.size : Int) == (t340.size : Int)) = true := beq_iff_eq.mpr c15
     have c15b1 : ((t339.size : Int) != (t340.size : Int)) = false := bne_eq_false_iff_eq.mpr c15
     have c15b2 : (t339.size == t340.size) = true := by first | simpa using c15 | (simp at c15 ⊢; omega)
     clear c15
     by_cases c16 : 0 ≤ x5_1
     ·rw [if_pos c16] at H
      have c16b0 := decide_eq_true c16
      clear c16
      by_cases c17 : x5_1 < (t339.size : Int)
      ·rw [if_pos c17] at H
       have c17b0 := decide_eq_true c17
       clear c17
       by_cases c19 : x5_1 < (t340.size : Int)
       ·rw [if_pos c19] at H
        have c19b0 := decide_eq_true c19
        clear c19
        by_cases c21 : (bt t339 x5_1) = (bt t340 x5_1)
        ·rw [if_pos c21] at H
         have c21b0 : ((bt t339 x5_1) == (bt t340 x5_1)) = true := beq_iff_eq.mpr c21
         have c21b1 : ((bt t339 x5_1) != (bt t340 x5_1)) = false := bne_eq_false_iff_eq.mpr c21
         clear c21
         have H' := Az_ H
         clear H
         try go_wp2
         have n0_ := Az_ (kdz_ BK338.out)
         have n1_ := Az_ (bdz_ HB.out)
         clear BK338 HB
         have BK338 := n0_
         have HB := n1_
         clear n0_ n1_
         have p18 : 0 ≤ (x5_1 : Int) := of_decide_eq_true asz_
         have q18 : x5_1 < (t339.size : Int) := of_decide_eq_true asz_
         have hx18 := bt_at t339 x5_1
         replace p18 := eq_true p18
         replace q18 := eq_true q18
         have p20 : 0 ≤ (x5_1 : Int) := of_decide_eq_true asz_
         have q20 : x5_1 < (t340.size : Int) := of_decide_eq_true asz_
         have hx20 := bt_at t340 x5_1
         replace p20 := eq_true p20
         replace q20 := eq_true q20
         refine start_ (n := 14) (S := fun w' => True) (ds := []) #[false, false, false, false, false, false, false, false, false, false, false, false, false, false] (w110_) rfl rfl trivial (fun hHeld => ?_); refine with_tabW impl_shortRange.tab5 impl_shortRange.bits5 (fun HT_ HW_ => ?_)
         generalize wr.drew = w22 at BK338 HB hHeld ⊢
         refine pure_ (i := 0) (N := some 18) (v := ?_) (a' := ?_) (mz_ [1,13]) rfl rfl (any_of HT_.out (w110_)) (fun _ _ _ h => h) (Or.inl ⟨by rfl, ?_⟩) ?_ ?_
         rotate_left
         ·intro w'
          go_simp
          with_reducible rfl
         rotate_left
         ·simp only [Act.put, usz_, utz_, uvz_, i64_w, i32_w]
          rfl
         refine pure_ (i := 1) (N := some 19) (v := ?_) (a' := ?_) (mz_ [2,12]) rfl rfl (any_of HT_.out (w110_)) (fun _ _ _ h => h) (Or.inl ⟨by rfl, ?_⟩) ?_ ?_
         rotate_left
         ·intro w'
          go_simp
          with_reducible rfl
         rotate_left
         ·simp only [Act.put, usz_, utz_, uvz_, i64_w, i32_w]
          rfl
         refine pure_ (i := 2) (N := some 20) (v := ?_) (a' := ?_) (mz_ [3,11]) rfl rfl (any_of HT_.out (w110_)) (fun _ _ _ h => h) (Or.inl ⟨by rfl, ?_⟩) ?_ ?_
         rotate_left
         ·intro w'
          go_simp
          with_reducible rfl
         rotate_left
         ·simp only [Act.put, usz_, utz_, uvz_, i64_w, i32_w]
          rfl
         refine pure_ (i := 3) (N := some 21) (v := ?_) (a' := ?_) (mz_ [4,10]) rfl rfl (any_of HT_.out (w110_)) (fun _ _ _ h => h) (Or.inl ⟨by rfl, ?_⟩) ?_ ?_
         rotate_left
         ·intro w'
          go_simp
          with_reducible rfl
         rotate_left
         ·simp only [Act.put, usz_, utz_, uvz_, i64_w, i32_w]
          rfl
         refine pure_ (i := 4) (N := some 22) (v := ?_) (a' := ?_) (mz_ [5,9]) rfl rfl (any_of HT_.out (w110_)) (fun _ _ _ h => h) (Or.inl ⟨by rfl, ?_⟩) ?_ ?_
         rotate_left
         ·intro w'
          go_simp
          with_reducible rfl
         rotate_left
         ·simp only [Act.put, usz_, utz_, uvz_, i64_w, i32_w]
          rfl
         refine pure_ (i := 5) (N := some 23) (v := ?_) (a' := ?_) (mz_ [6,8]) rfl rfl (any_of HT_.out (w110_)) (fun _ _ _ h => h) (Or.inl ⟨by rfl, ?_⟩) ?_ ?_
         rotate_left
         ·intro w'
          go_simp
          with_reducible rfl
         rotate_left
         ·simp only [Act.put, usz_, utz_, uvz_, i64_w, i32_w]
          rfl
         refine pure_ (i := 6) (N := some 24) (v := ?_) (a' := ?_) (mz_ [7,7]) rfl rfl (any_of HT_.out (w110_)) (fun _ _ _ h => h) (Or.inl ⟨by rfl, ?_⟩) ?_ ?_
         rotate_left
         ·intro w'
          go_simp
          with_reducible rfl
         rotate_left
         ·simp only [Act.put, usz_, utz_, uvz_, i64_w, i32_w]
          rfl
         refine pure_ (i := 7) (N := some 25) (v := ?_) (a' := ?_) (mz_ [8,6]) rfl rfl (any_of HT_.out (w110_)) (fun _ _ _ h => h) (Or.inl ⟨by rfl, ?_⟩) ?_ ?_
         rotate_left
         ·intro w'
          go_simp
          with_reducible rfl
         rotate_left
         ·simp only [Act.put, usz_, utz_, uvz_, i64_w, i32_w]
          rfl
         refine pure_ (i := 9) (N := some 27) (v := ?_) (a' := ?_) (mz_ [8,1,1,4]) rfl rfl (any_of HT_.out (w110_)) (fun _ _ _ h => h) (Or.inl ⟨by rfl, ?_⟩) ?_ ?_
         rotate_left
         ·intro w'
          go_simp
          with_reducible rfl
         rotate_left
         ·simp only [Act.put, usz_, utz_, uvz_, i64_w, i32_w]
          rfl
         refine pure_ (i := 10) (N := some 28) (v := ?_) (a' := ?_) (mz_ [8,1,2,3]) rfl rfl (any_of HT_.out (w110_)) (fun _ _ _ h => h) (Or.inl ⟨by rfl, ?_⟩) ?_ ?_
         rotate_left
         ·intro w'
          go_simp
          with_reducible rfl
         rotate_left
         ·simp only [Act.put, usz_, utz_, uvz_, i64_w, i32_w]
          rfl
         refine take_ (i := 8) (N := some 26) (v := ?_) (a' := ?_) (mz_ [11,3]) rfl rfl (take_ofW HT_.out HW_.out (w110_)) (fun _ _ _ h => h) (Or.inl ⟨by rfl, ?_⟩) hHeld ?_ ?_
         rotate_left
         ·intro w' _
          go_simp
          with_reducible rfl
         rotate_left
         ·simp only [Act.put, usz_, utz_, uvz_, i64_w, i32_w]
          rfl
         refine take_ (i := 11) (N := some 29) (v := ?_) (a' := ?_) (mz_ [12,2]) rfl rfl (take_ofW HT_.out HW_.out (w110_)) (fun _ _ _ h => h) (Or.inl ⟨by rfl, ?_⟩) hHeld ?_ ?_
         rotate_left
         ·intro w' _
          go_simp
          with_reducible rfl
         rotate_left
         ·simp only [Act.put, usz_, utz_, uvz_, i64_w, i32_w]
          rfl
         refine pure_ (i := 12) (N := some 30) (v := ?_) (a' := ?_) (mz_ [13,1]) rfl rfl (any_of HT_.out (w110_)) (fun _ _ _ h => h) (Or.inl ⟨by rfl, ?_⟩) ?_ ?_
         rotate_left
         ·intro w'
          go_simp
          with_reducible rfl
         rotate_left
         ·simp only [Act.put, usz_, utz_, uvz_, i64_w, i32_w]
          rfl
         refine pure_ (i := 13) (N := some 31) (v := ?_) (a' := ?_) (mz_ [14]) rfl rfl (any_of HT_.out (w110_)) (fun _ _ _ h => h) (Or.inl ⟨by rfl, ?_⟩) ?_ ?_
         rotate_left
         ·intro w'
          go_simp
          with_reducible rfl
         rotate_left
         ·simp only [Act.put, usz_, utz_, uvz_, i64_w, i32_w]
          rfl
         refine done_ (done_of HT_.out (w110_)) ?_
         try go_wp2
         go_roundg k1
         case measure => have := HK1.out; omega
         case rel => exact ⟨(wrap64 (x5_1 + 1)), qaz_, H', ⟨w83_⟩, ⟨by (with_reducible repeat (first | refine knz_ ?_ _ | refine kdz_ ?_ | refine kaz_ ?_ _)); exact BK338.out⟩, ⟨w40_⟩⟩
        ·rw [if_neg c21] at H
         have c21b0 : ((bt t339 x5_1) == (bt t340 x5_1)) = false := beq_eq_false_iff_ne.mpr c21
         have c21b1 : ((bt t339 x5_1) != (bt t340 x5_1)) = true := bne_iff_ne.mpr c21
         by_cases c23 : t339.size + 1 ≤ 9223372036854775807
         ·rw [if_pos c23] at H
          have c23b0 := eq_true c23
          have c23b1 := decide_eq_true c23
          try have c23b2 : (9223372036854775807 < t339.size + 1) = False := eq_false (Nat.not_lt.2 c23)
          have c24b0 := eq_true (of_decide_eq_true asz_ : 0 ≤ x5_1)
          by_cases c25 : x5_1 ≤ (t340.size : Int)
          ·rw [if_pos c25] at H
           have c25b0 := eq_true c25
           have c25b1 := decide_eq_true c25
           clear c25
           by_cases c26 : (t339 ++ (⟨#[45]⟩ : ByteArray)).size + (t340.extract (x5_1 : Int).toNat t340.size).size ≤ 9223372036854775807
           ·rw [if_pos c26] at H
            have c26b0 := eq_true c26
            have c26b1 := decide_eq_true c26
            try have c26b2 : (9223372036854775807 < (t339 ++ (⟨#[45]⟩ : ByteArray)).size + (t340.extract (x5_1 : Int).toNat t340.size).size) = False := eq_false (Nat.not_lt.2 c26)
            have c26b3 : (9223372036854775807 < t339.size + 1 + (t340.extract (x5_1 : Int).toNat t340.size).size) = False := by (have h_ := c26b2; simp only [ByteArray.size_append] at h_; exact h_)
            obtain rfl := Option.some.inj H
            try go_wp2
            have n0_ := Az_ (kdz_ BK338.out)
            have n1_ := Az_ (bdz_ HB.out)
            clear BK338 HB
            have BK338 := n0_
            have HB := n1_
            clear n0_ n1_
            have p18 : 0 ≤ (x5_1 : Int) := of_decide_eq_true asz_
            have q18 : x5_1 < (t339.size : Int) := of_decide_eq_true asz_
            have hx18 := bt_at t339 x5_1
            replace p18 := eq_true p18
            replace q18 := eq_true q18
            have p20 : 0 ≤ (x5_1 : Int) := of_decide_eq_true asz_
            have q20 : x5_1 < (t340.size : Int) := of_decide_eq_true asz_
            have hx20 := bt_at t340 x5_1
            replace p20 := eq_true p20
            replace q20 := eq_true q20
            refine start_ (n := 14) (S := fun w' => True) (ds := []) #[false, false, false, false, false, false, false, false, false, false, false, false, false, false] (w110_) rfl rfl trivial (fun hHeld => ?_); refine with_tabW impl_shortRange.tab5 impl_shortRange.bits5 (fun HT_ HW_ => ?_)
            generalize wr.drew = w27 at BK338 HB hHeld ⊢
            refine pure_ (i := 0) (N := some 18) (v := ?_) (a' := ?_) (mz_ [1,13]) rfl rfl (any_of HT_.out (w110_)) (fun _ _ _ h => h) (Or.inl ⟨by rfl, ?_⟩) ?_ ?_
            rotate_left
            ·intro w'
             go_simp
             with_reducible rfl
            rotate_left
            ·simp only [Act.put, usz_, utz_, uvz_, i64_w, i32_w]
             rfl
            refine pure_ (i := 1) (N := some 19) (v := ?_) (a' := ?_) (mz_ [2,12]) rfl rfl (any_of HT_.out (w110_)) (fun _ _ _ h => h) (Or.inl ⟨by rfl, ?_⟩) ?_ ?_
            rotate_left
            ·intro w'
             go_simp
             with_reducible rfl
            rotate_left
            ·simp only [Act.put, usz_, utz_, uvz_, i64_w, i32_w]
             rfl
            refine pure_ (i := 2) (N := some 20) (v := ?_) (a' := ?_) (mz_ [3,11]) rfl rfl (any_of HT_.out (w110_)) (fun _ _ _ h => h) (Or.inl ⟨by rfl, ?_⟩) ?_ ?_
            rotate_left
            ·intro w'
             go_simp
             with_reducible rfl
            rotate_left
            ·simp only [Act.put, usz_, utz_, uvz_, i64_w, i32_w]
             rfl
            refine pure_ (i := 3) (N := some 21) (v := ?_) (a' := ?_) (mz_ [4,10]) rfl rfl (any_of HT_.out (w110_)) (fun _ _ _ h => h) (Or.inl ⟨by rfl, ?_⟩) ?_ ?_
            rotate_left
            ·intro w'
             go_simp
             with_reducible rfl
            rotate_left
            ·simp only [Act.put, usz_, utz_, uvz_, i64_w, i32_w]
             rfl
            refine pure_ (i := 4) (N := some 22) (v := ?_) (a' := ?_) (mz_ [5,9]) rfl rfl (any_of HT_.out (w110_)) (fun _ _ _ h => h) (Or.inl ⟨by rfl, ?_⟩) ?_ ?_
            rotate_left
            ·intro w'
             go_simp
             with_reducible rfl
            rotate_left
            ·simp only [Act.put, usz_, utz_, uvz_, i64_w, i32_w]
             rfl
            refine pure_ (i := 5) (N := some 23) (v := ?_) (a' := ?_) (mz_ [6,8]) rfl rfl (any_of HT_.out (w110_)) (fun _ _ _ h => h) (Or.inl ⟨by rfl, ?_⟩) ?_ ?_
            rotate_left
            ·intro w'
             go_simp
             with_reducible rfl
            rotate_left
            ·simp only [Act.put, usz_, utz_, uvz_, i64_w, i32_w]
             rfl
            refine pure_ (i := 6) (N := some 24) (v := ?_) (a' := ?_) (mz_ [7,7]) rfl rfl (any_of HT_.out (w110_)) (fun _ _ _ h => h) (Or.inl ⟨by rfl, ?_⟩) ?_ ?_
            rotate_left
            ·intro w'
             go_simp
             with_reducible rfl
            rotate_left
            ·simp only [Act.put, usz_, utz_, uvz_, i64_w, i32_w]
             rfl
            refine pure_ (i := 7) (N := some 25) (v := ?_) (a' := ?_) (mz_ [8,6]) rfl rfl (any_of HT_.out (w110_)) (fun _ _ _ h => h) (Or.inl ⟨by rfl, ?_⟩) ?_ ?_
            rotate_left
            ·intro w'
             go_simp
             with_reducible rfl
            rotate_left
            ·simp only [Act.put, usz_, utz_, uvz_, i64_w, i32_w]
             rfl
            refine pure_ (i := 9) (N := some 27) (v := ?_) (a' := ?_) (mz_ [8,1,1,4]) rfl rfl (any_of HT_.out (w110_)) (fun _ _ _ h => h) (Or.inl ⟨by rfl, ?_⟩) ?_ ?_
            rotate_left
            ·intro w'
             go_simp
             with_reducible rfl
            rotate_left
            ·simp only [Act.put, usz_, utz_, uvz_, i64_w, i32_w]
             rfl
            refine pure_ (i := 10) (N := some 28) (v := ?_) (a' := ?_) (mz_ [8,1,2,3]) rfl rfl (any_of HT_.out (w110_)) (fun _ _ _ h => h) (Or.inl ⟨by rfl, ?_⟩) ?_ ?_
            rotate_left
            ·intro w'
             go_simp
             with_reducible rfl
            rotate_left
            ·simp only [Act.put, usz_, utz_, uvz_, i64_w, i32_w]
             rfl
            refine take_ (i := 8) (N := some 26) (v := ?_) (a' := ?_) (mz_ [11,3]) rfl rfl (take_ofW HT_.out HW_.out (w110_)) (fun _ _ _ h => h) (Or.inl ⟨by rfl, ?_⟩) hHeld ?_ ?_
            rotate_left
            ·intro w' _
             go_simp
             with_reducible rfl
            rotate_left
            ·simp only [Act.put, usz_, utz_, uvz_, i64_w, i32_w]
             rfl
            refine take_ (i := 11) (N := some 29) (v := ?_) (a' := ?_) (mz_ [12,2]) rfl rfl (take_ofW HT_.out HW_.out (w110_)) (fun _ _ _ h => h) (Or.inl ⟨by rfl, ?_⟩) hHeld ?_ ?_
            rotate_left
            ·intro w' _
             go_simp
             with_reducible rfl
            rotate_left
            ·simp only [Act.put, usz_, utz_, uvz_, i64_w, i32_w]
             rfl
            refine pure_ (i := 12) (N := some 30) (v := ?_) (a' := ?_) (mz_ [13,1]) rfl rfl (any_of HT_.out (w110_)) (fun _ _ _ h => h) (Or.inl ⟨by rfl, ?_⟩) ?_ ?_
            rotate_left
            ·intro w'
             go_simp
             with_reducible rfl
            rotate_left
            ·simp only [Act.put, usz_, utz_, uvz_, i64_w, i32_w]
             rfl
            refine pure_ (i := 13) (N := some 31) (v := ?_) (a' := ?_) (mz_ [14]) rfl rfl (any_of HT_.out (w110_)) (fun _ _ _ h => h) (Or.inl ⟨by rfl, ?_⟩) ?_ ?_
            rotate_left
            ·intro w'
             go_simp
             with_reducible rfl
            rotate_left
            ·simp only [Act.put, usz_, utz_, uvz_, i64_w, i32_w]
             rfl
            refine done_ (done_of HT_.out (w110_)) ?_
            try go_wp2
            go_ret
            exact ⟨w61_, w40_⟩
           ·rw [if_neg c26] at H
            exact absurd H (by simp)
          ·rw [if_neg c25] at H
           exact absurd H (by simp)
         ·rw [if_neg c23] at H
          exact absurd H (by simp)
       ·rw [if_neg c19] at H
        exact absurd H (by simp)
      ·rw [if_neg c17] at H
       exact absurd H (by simp)
     ·rw [if_neg c16] at H
      exact absurd H (by simp)
    ·rw [if_neg c15] at H
     have c15b0 : ((t339.size : Int) == (t340.size : Int)) = false := beq_eq_false_iff_ne.mpr c15
     have c15b1 : ((t339.size : Int) != (t340.size : Int)) = true := bne_iff_ne.mpr c15
     have c15b2 : (t339.size == t340.size) = false := by first | simpa using c15 | (simp at c15 ⊢; omega)
     by_cases c28 : t339.size + 1 ≤ 9223372036854775807
     ·rw [if_pos c28] at H
      have c28b0 := eq_true c28
      have c28b1 := decide_eq_true c28
      try have c28b2 : (9223372036854775807 < t339.size + 1) = False := eq_false (Nat.not_lt.2 c28)
      by_cases c29 : 0 ≤ x5_1
      ·rw [if_pos c29] at H
       have c29b0 := eq_true c29
       have c29b1 := decide_eq_true c29
       clear c29
       by_cases c30 : x5_1 ≤ (t340.size : Int)
       ·rw [if_pos c30] at H
        have c30b0 := eq_true c30
        have c30b1 := decide_eq_true c30
        clear c30
        by_cases c31 : (t339 ++ (⟨#[45]⟩ : ByteArray)).size + (t340.extract (x5_1 : Int).toNat t340.size).size ≤ 9223372036854775807
        ·rw [if_pos c31] at H
         have c31b0 := eq_true c31
         have c31b1 := decide_eq_true c31
         try have c31b2 : (9223372036854775807 < (t339 ++ (⟨#[45]⟩ : ByteArray)).size + (t340.extract (x5_1 : Int).toNat t340.size).size) = False := eq_false (Nat.not_lt.2 c31)
         have c31b3 : (9223372036854775807 < t339.size + 1 + (t340.extract (x5_1 : Int).toNat t340.size).size) = False := by (have h_ := c31b2; simp only [ByteArray.size_append] at h_; exact h_)
         obtain rfl := Option.some.inj H
         try go_wp2
         have n0_ := Az_ (kdz_ BK338.out)
         have n1_ := Az_ (bdz_ HB.out)
         clear BK338 HB
         have BK338 := n0_
         have HB := n1_
         clear n0_ n1_
         refine start_ (n := 14) (S := fun w' => True) (ds := []) #[false, false, false, false, false, false, false, false, false, false, false, false, false, false] (w110_) rfl rfl trivial (fun hHeld => ?_); refine with_tabW impl_shortRange.tab5 impl_shortRange.bits5 (fun HT_ HW_ => ?_)
         generalize wr.drew = w32 at BK338 HB hHeld ⊢
         refine pure_ (i := 0) (N := some 18) (v := ?_) (a' := ?_) (mz_ [1,13]) rfl rfl (any_of HT_.out (w110_)) (fun _ _ _ h => h) (Or.inl ⟨by rfl, ?_⟩) ?_ ?_
         rotate_left
         ·intro w'
          go_simp
          with_reducible rfl
         rotate_left
         ·simp only [Act.put, usz_, utz_, uvz_, i64_w, i32_w]
          rfl
         refine pure_ (i := 1) (N := some 19) (v := ?_) (a' := ?_) (mz_ [2,12]) rfl rfl (any_of HT_.out (w110_)) (fun _ _ _ h => h) (Or.inl ⟨by rfl, ?_⟩) ?_ ?_
         rotate_left
         ·intro w'
          go_simp
          with_reducible rfl
         rotate_left
         ·simp only [Act.put, usz_, utz_, uvz_, i64_w, i32_w]
          rfl
         refine pure_ (i := 2) (N := some 20) (v := ?_) (a' := ?_) (mz_ [3,11]) rfl rfl (any_of HT_.out (w110_)) (fun _ _ _ h => h) (Or.inl ⟨by rfl, ?_⟩) ?_ ?_
         rotate_left
         ·intro w'
          go_simp
          with_reducible rfl
         rotate_left
         ·simp only [Act.put, usz_, utz_, uvz_, i64_w, i32_w]
          rfl
         refine pure_ (i := 3) (N := some 21) (v := ?_) (a' := ?_) (mz_ [4,10]) rfl rfl (any_of HT_.out (w110_)) (fun _ _ _ h => h) (Or.inl ⟨by rfl, ?_⟩) ?_ ?_
         rotate_left
         ·intro w'
          go_simp
          with_reducible rfl
         rotate_left
         ·simp only [Act.put, usz_, utz_, uvz_, i64_w, i32_w]
          rfl
         refine pure_ (i := 4) (N := some 22) (v := ?_) (a' := ?_) (mz_ [5,9]) rfl rfl (any_of HT_.out (w110_)) (fun _ _ _ h => h) (Or.inl ⟨by rfl, ?_⟩) ?_ ?_
         rotate_left
         ·intro w'
          go_simp
          with_reducible rfl
         rotate_left
         ·simp only [Act.put, usz_, utz_, uvz_, i64_w, i32_w]
          rfl
         refine pure_ (i := 5) (N := some 23) (v := ?_) (a' := ?_) (mz_ [6,8]) rfl rfl (any_of HT_.out (w110_)) (fun _ _ _ h => h) (Or.inl ⟨by rfl, ?_⟩) ?_ ?_
         rotate_left
         ·intro w'
          go_simp
          with_reducible rfl
         rotate_left
         ·simp only [Act.put, usz_, utz_, uvz_, i64_w, i32_w]
          rfl
         refine pure_ (i := 6) (N := some 24) (v := undef) (a' := ?_) (mz_ [7,7]) rfl rfl (any_of HT_.out (w110_)) (fun _ _ _ h => h) (Or.inr ⟨by rfl, rfl⟩) ?_ ?_
         rotate_left
         ·simp only [Act.put, usz_, utz_, uvz_, i64_w, i32_w]
          rfl
         refine pure_ (i := 7) (N := some 25) (v := undef) (a' := ?_) (mz_ [8,6]) rfl rfl (any_of HT_.out (w110_)) (fun _ _ _ h => h) (Or.inr ⟨by rfl, rfl⟩) ?_ ?_
         rotate_left
         ·simp only [Act.put, usz_, utz_, uvz_, i64_w, i32_w]
          rfl
         refine pure_ (i := 8) (N := some 26) (v := undef) (a' := ?_) (mz_ [9,5]) rfl rfl (any_of HT_.out (w110_)) (fun _ _ _ h => h) (Or.inr ⟨by rfl, rfl⟩) ?_ ?_
         rotate_left
         ·simp only [Act.put, usz_, utz_, uvz_, i64_w, i32_w]
          rfl
         refine pure_ (i := 9) (N := some 27) (v := undef) (a' := ?_) (mz_ [10,4]) rfl rfl (any_of HT_.out (w110_)) (fun _ _ _ h => h) (Or.inr ⟨by rfl, rfl⟩) ?_ ?_
         rotate_left
         ·simp only [Act.put, usz_, utz_, uvz_, i64_w, i32_w]
          rfl
         refine pure_ (i := 10) (N := some 28) (v := undef) (a' := ?_) (mz_ [11,3]) rfl rfl (any_of HT_.out (w110_)) (fun _ _ _ h => h) (Or.inr ⟨by rfl, rfl⟩) ?_ ?_
         rotate_left
         ·simp only [Act.put, usz_, utz_, uvz_, i64_w, i32_w]
          rfl
         refine pure_ (i := 11) (N := some 29) (v := undef) (a' := ?_) (mz_ [12,2]) rfl rfl (any_of HT_.out (w110_)) (fun _ _ _ h => h) (Or.inr ⟨by rfl, rfl⟩) ?_ ?_
         rotate_left
         ·simp only [Act.put, usz_, utz_, uvz_, i64_w, i32_w]
          rfl
         refine pure_ (i := 12) (N := some 30) (v := undef) (a' := ?_) (mz_ [13,1]) rfl rfl (any_of HT_.out (w110_)) (fun _ _ _ h => h) (Or.inr ⟨by rfl, rfl⟩) ?_ ?_
         rotate_left
         ·simp only [Act.put, usz_, utz_, uvz_, i64_w, i32_w]
          rfl
         refine pure_ (i := 13) (N := some 31) (v := ?_) (a' := ?_) (mz_ [14]) rfl rfl (any_of HT_.out (w110_)) (fun _ _ _ h => h) (Or.inl ⟨by rfl, ?_⟩) ?_ ?_
         rotate_left
         ·intro w'
          go_simp
          with_reducible rfl
         rotate_left
         ·simp only [Act.put, usz_, utz_, uvz_, i64_w, i32_w]
          rfl
         refine done_ (done_of HT_.out (w110_)) ?_
         try go_wp2
         go_ret
         exact ⟨w61_, w40_⟩
        ·rw [if_neg c31] at H
         exact absurd H (by simp)
       ·rw [if_neg c30] at H
        exact absurd H (by simp)
      ·rw [if_neg c29] at H
       exact absurd H (by simp)
     ·rw [if_neg c28] at H
      exact absurd H (by simp)

end Go.Proofs.YtppbpefehpbejaaGreatDoor.P
end

section
namespace Go.Proofs.YtppbpefehpbejaaGreatDoor.P
open Go.RowKit Go.Proofs.YtppbpefehpbejaaGreatDoorW.PrintWords Go.Proofs.YtppbpefehpbejaaGreatDoorW.PrintLast Go.Proofs.YtppbpefehpbejaaGreatDoorW.PrintMore
set_option linter.unusedVariables false

def joinB (l : List ByteArray) (s : ByteArray) : List UInt8 := Lib.join (l.map (·.data.toList)) s.data.toList
def strjoin.f (l : List ByteArray) (s : ByteArray) : Option ByteArray := if (joinB l s).length ≤ 140737488355328 ∧ l.length ≤ 140737488355328 then some ⟨(joinB l s).toArray⟩ else none
theorem strjoin.calls (A0 : Option Addr) (c0 : Nat) (l0 : List ByteArray) (a1 : ByteArray) (r : ByteArray) (w : World) (hr0 : ∃ base ok, Kd.R Kd.string 9 w base ok (.slice A0 l0.length c0) l0) (hc0 : l0.length ≤ c0) (h : strjoin.f l0 a1 = some r) :
    Calls Tryz.prog 177 #[.slice A0 l0.length c0, .string a1] w fun e w' => e = .returned (.string r) ∧ Below w.heap.size w w' := by
  obtain ⟨base, ok, hrow⟩ := hr0
  unfold strjoin.f at h
  by_cases hl : (joinB l0 a1).length ≤ 140737488355328 ∧ l0.length ≤ 140737488355328
  · rw [if_pos hl] at h
    obtain rfl := Option.some.inj h
    rcases Nat.eq_zero_or_pos l0.length with h0 | h0
    · have hn := List.length_eq_zero_iff.1 h0
      subst hn
      exact (Tryz.strings_Join_none A0 c0 a1 w).mono fun e w' ⟨he, hw⟩ => ⟨he, hw ▸ Below.refl _ _⟩
    · obtain ⟨g, cap, e, hb, hg, _⟩ := Kd.R_form hrow h0
      injection e with e1 e2 e3
      subst e1 e3
      refine Tryz.strings_Join g 0 c0 l0 a1 w (fun j x hj => ?_) hg hl.2 hc0 hl.1
      have hjl := (List.getElem?_eq_some_iff.1 hj).1
      have := (Kd.R_celln ByteArray.empty hrow (j : Int) (by omega) (by omega)).1
      rw [Int.toNat_natCast] at this
      rw [Nat.zero_add, this]
      unfold rdOf
      rw [Int.toNat_natCast, List.getD_eq_getElem?_getD, hj]
      rfl
  · rw [if_neg hl] at h
    cases h
end Go.Proofs.YtppbpefehpbejaaGreatDoor.P
end

section
namespace Go.Proofs.YtppbpefehpbejaaGreatDoor.P
open Go.RowKit Go.Proofs.YtppbpefehpbejaaGreatDoorW.PrintWords Go.Proofs.YtppbpefehpbejaaGreatDoorW.PrintLast Go.Proofs.YtppbpefehpbejaaGreatDoorW.PrintMore
attribute [local go_sem] max2_int min2_int max_two min_two max_three min_three max_four min_four   -- for this text's walks alone
set_option linter.unusedVariables false
set_option linter.unusedSimpArgs false

def impl_rangesText.l0 : Nat → List ByteArray → List (S69) → Int → Int → Option (ByteArray)
 | 0, _, _, _, _ => none
 | k + 1, x3, x7, x8, x9 => if x9 < x8 then (if 0 ≤ x9 then (if x9 < (x7.length : Int) then ((impl_shortRange.f k ((rd_T69 x7 x9).f0) ((rd_T69 x7 x9).f1)).bind fun t346 => (if x3.length < 8796093022208 then (impl_rangesText.l0 k (x3 ++ [t346]) x7 x8 (wrap64 (x9 + 1))) else (none))) else (none)) else (none)) else ((strjoin.f x3 (⟨#[44]⟩ : ByteArray)).bind fun t350 => (some t350))
def impl_rangesText.f (k : Nat) (l0 : List (S69)) : Option (ByteArray) := impl_rangesText.l0 k (([] : List ByteArray)) l0 (l0.length : Int) 0
set_option maxHeartbeats 8000000 in
set_option maxRecDepth 100000 in
theorem impl_rangesText.calls (k : Nat) (A0 : Option Addr) (c0 : Nat) (l0 : List (S69)) (r : ByteArray) (w : World) (hT : LibW w) (hr0 : Kd.C k69 w A0 l0.length l0) (hc0 : l0.length ≤ c0) (h : impl_rangesText.f k l0 = some r) :
  Calls Tryz.prog 137 #[.slice A0 l0.length c0] w fun e w' => e = .returned (.string r) ∧ Below w.heap.size w w' := by
 have HTAB := Az_ hT
 clear hT
 have hu69 := Tryz.underlying69
 have HR0 := Az_ hr0
 have HC0 := Az_ hc0
 clear hr0 hc0
 have HB := Az_ (Below.refl w.heap.size w)
 have H : (impl_rangesText.l0 k (([] : List ByteArray)) l0 (l0.length : Int) 0) = some r := h
 clear h
 obtain ⟨y341, hy341⟩ : ∃ y_ : List ByteArray, y_ = (([] : List ByteArray)) := ⟨_, rfl⟩
 replace H : (impl_rangesText.l0 k y341 l0 (l0.length : Int) 0) = some r := by first | (rw [hy341]; with_reducible exact H) | (have H2_ := (Option.bind_some _ _).symm.trans H; rw [hy341]; with_reducible exact H2_) | (have H2_ := (Option.bind_some _ _).symm.trans H; with_reducible exact H2_) | with_reducible exact H | (rw [hy341]; exact H) | exact H
 have Ny341 := Az_ hy341
 clear hy341
 have H' := Az_ H
 clear H
 go_enter Tryz.func137, Tryz.ntmps137
 go_wp2_with (first | ((with_reducible refine gate_dst (N := 6) rfl ?_); refine Kd.R_lit Kd.string _ 9 ?hg (N := 6) ?hd (xs := ([] : List ByteArray)) (inner := []) (ok := fun _ => True) (okp := fun _ => True) ?hr ?hp (fun _ hk => hk) trivial (Below.refl _ _) (Nat.le_refl _) (by simp) ?_; (case hd => rfl); (case hg => rfl); (case hr => first | (go_simp; done) | (go_simp; rfl)); (case hp => exact (Reps.none _ _)); intro v342 w2 ho3 hb hg_ hnew_; clear hg_ hnew_; (first | rw [← Ny341.out] at ho3 | (simp only [Int.reduceToNat] at ho3; rw [← Ny341.out] at ho3)); have HO343 := Az_ (Kd.R_lower ho3 (below_size (ubz_ HB.out))); replace HB := Az_ (btz_ (ubz_ HB.out) hb); clear hb ho3))
 go_loopg [3, 9] k (fun kq v3 v9 w' => ∃ (x3_1 : List ByteArray) (x9_1 : Int), v9 = .int .i64 x9_1 ∧ Aside0 (impl_rangesText.l0 kq x3_1 l0 (l0.length : Int) x9_1 = some r) ∧ Aside0 (kq ≤ k) ∧ Aside0 (Kd.R Kd.string 9 w' w.heap.size (fun _ => True) v3 x3_1) ∧ Aside0 (Below w.heap.size w w'))
 case atStart => exact ⟨(y341), (0), qaz_, H', ⟨Nat.le_refl _⟩, ⟨by (with_reducible repeat (first | apply raz_ | apply rnz_ | apply rdz_)); exact HO343.out⟩, ⟨w109_⟩⟩
 case round =>
  clear H'
  obtain ⟨x3_1, x9_1, rfl, HA, HK1, HO_3, HB⟩ := hrel
  cases gk with
  | zero => exact absurd HA.out (by simp [impl_rangesText.l0])
  | succ k1 =>
   have H := HA.out
   clear HA
   simp only [impl_rangesText.l0] at H
   by_cases c4 : x9_1 < (l0.length : Int)
   ·rw [if_pos c4] at H
    have c4b0 := decide_eq_true c4
    clear c4
    by_cases c5 : 0 ≤ x9_1
    ·rw [if_pos c5] at H
     have c5b0 := decide_eq_true c5
     clear c5
     by_cases c6 : x9_1 < (l0.length : Int)
     ·rw [if_pos c6] at H
      have c6b0 := decide_eq_true c6
      clear c6
      replace H := bqz_ H; obtain ⟨t346, A7, H⟩ := H
      replace H : (if x3_1.length < 8796093022208 then (impl_rangesText.l0 k1 (x3_1 ++ [t346]) l0 (l0.length : Int) (wrap64 (x9_1 + 1))) else (none)) = some r := H
      by_cases c8 : x3_1.length < 8796093022208
      ·rw [if_pos c8] at H
       have LMc8 := Az_ c8
       clear c8
       obtain ⟨y347, hy347⟩ : ∃ y_ : List ByteArray, y_ = (x3_1 ++ [t346]) := ⟨_, rfl⟩
       replace H : (impl_rangesText.l0 k1 y347 l0 (l0.length : Int) (wrap64 (x9_1 + 1))) = some r := by first | (rw [hy347]; with_reducible exact H) | (have H2_ := (Option.bind_some _ _).symm.trans H; rw [hy347]; with_reducible exact H2_) | (have H2_ := (Option.bind_some _ _).symm.trans H; with_reducible exact H2_) | with_reducible exact H | (rw [hy347]; exact H) | exact H
       have Ny347 := Az_ hy347
       clear hy347
       have H' := Az_ H
       clear H
       have p344 : 0 ≤ (x9_1 : Int) := of_decide_eq_true asz_
       have q344 : x9_1 < (l0.length : Int) := of_decide_eq_true asz_
       obtain ⟨ad344, e344, hx344_0, hx344_1⟩ := at_T69 HR0.out x9_1 p344 q344
       cases e344
       replace hx344_0 := (HB.out.cell (World.block_lt_of_cell? w _ hx344_0)).trans hx344_0
       replace hx344_1 := (HB.out.cell (World.block_lt_of_cell? w _ hx344_1)).trans hx344_1
       replace p344 := eq_true p344
       replace q344 := eq_true q344
       go_wp2_with (first | ((with_reducible refine gate_dst (N := 5) rfl ?_); refine box_event ?hg (N := 5) ?hd (cs := #[.int .i64 0, .int .i64 0]) (t := 69) ?hr ?_; (case hd => rfl); (case hg => rfl); (case hr => first | (go_simp; done) | (go_simp; rfl)); intro gb345 hg w9 hbox hb; replace HO_3 := Az_ (Kd.R_below (w104_) hb); have BK345 := Az_ (hbox); have GW345 := Az_ ((by rw [hg]; exact (below_size (ubz_ HB.out)) : w.heap.size ≤ gb345)); have GE345 := Az_ ((by rw [hg]; exact (below_size (ubz_ HB.out)) : w.heap.size ≤ gb345)); replace HB := Az_ (btz_ (ubz_ HB.out) hb); clear hb hbox hg; have hcz10_0 : w9.cell? ⟨gb345, 0, none⟩ = some (.int .i64 0) := (blk_cell BK345.out 0).trans rfl; have hcz10_1 : w9.cell? ⟨gb345, 1, none⟩ = some (.int .i64 0) := (blk_cell BK345.out 1).trans rfl; have hfz10_0 := blk_frozen BK345.out 0; have hfz10_1 := blk_frozen BK345.out 1) | ((with_reducible refine gate_callee (f := 176) rfl ?_); refine goesL_ (some 15) rfl rfl Tryz.func176 (w110_) rfl #[.agg #[.int .i64 ((rd_T69 l0 x9_1).f0), .int .i64 ((rd_T69 l0 x9_1).f1)]] rfl maz_ ?_; (with_reducible refine (impl_shortRange.calls k1 ((rd_T69 l0 x9_1).f0) ((rd_T69 l0 x9_1).f1) t346 _ (libW_below HTAB.out (w40_)) A7.out).mono ?_); rintro e w11 ⟨rfl, hb⟩; refine ⟨_, rfl, ?_⟩; replace HO_3 := Az_ (Kd.R_below (by (with_reducible repeat (first | apply raz_ | apply rnz_ | apply rdz_)); exact (Kd.R_mono (Kd.R_far (p := ⟨gb345, 1, none⟩) (Kd.R_far (p := ⟨gb345, 0, none⟩) (Kd.R_types HO_3.out BK345.out (by decide)) (fun _ hk => hk.2) (.int .i64 ((rd_T69 l0 x9_1).f0))) (fun _ hk => hk.2) (.int .i64 ((rd_T69 l0 x9_1).f1))) (fun _ h_ => h_.1))) hb); replace BK345 := Az_ (kbz_ (g := gb345) (o := .cells #[.int .i64 ((rd_T69 l0 x9_1).f0), .int .i64 ((rd_T69 l0 x9_1).f1)] 69 (0, 0)) (by (with_reducible repeat (first | refine knz_ ?_ _ | refine kdz_ ?_ | refine kaz_ ?_ _)); refine blk_put (cs := #[.int .i64 ((rd_T69 l0 x9_1).f0), .int .i64 0]) ?_ 1 _ rfl; (with_reducible repeat (first | refine knz_ ?_ _ | refine kdz_ ?_ | refine kaz_ ?_ _)); refine blk_put (cs := #[.int .i64 0, .int .i64 0]) ?_ 0 _ rfl; (with_reducible repeat (first | refine knz_ ?_ _ | refine kdz_ ?_ | refine kaz_ ?_ _)); exact BK345.out) hb); replace HB := Az_ (btz_ (w40_) hb); (try clear hb)) | ((with_reducible refine gate_builtin (b := .append) (xs := #[.tmp 13, .tmp 16]) rfl ?_); at_builtin; refine Kd.R_append Kd.string (w0 := w) w.heap.size rfl (.tmp 13) (.tmp 16) 141 9 (.string ⟨#[]⟩) 16 rfl Tryz.underlying141 info9 rfl (by decide) (by omega) u3 x3_1 t346 [.string t346] (fun _ => True) (fun _ => False) rfl rfl ?aP (fun _ hk => hk.elim) ?aF ?aO ?aB ?aS ?aL ?_; (case aP => exact rfl); (case aB => exact (w40_)); (case aF => exact (fun _ _ => trivial)); (case aO => exact (w104_)); (case aS => exact (below_size (w40_))); (case aL => have := LMc8.out; omega); intro v348 w12 ho hb hg hat; rw [← Ny347.out] at ho; replace BK345 := Az_ (blk_grown (g := gb345) (o := .cells #[.int .i64 ((rd_T69 l0 x9_1).f0), .int .i64 ((rd_T69 l0 x9_1).f1)] 69 (0, 0)) (by exact ukz_ BK345.out) hg (Kd.R_ne HO_3.out BK345.out (by decide))); replace HB := Az_ (hb); have HO349 := Az_ (ho); clear HO_3; clear ho hb hg hat))
       go_roundg k1
       case measure => have := HK1.out; omega
       case rel => exact ⟨(y347), (wrap64 (x9_1 + 1)), qaz_, H', ⟨w83_⟩, ⟨by (with_reducible repeat (first | apply raz_ | apply rnz_ | apply rdz_)); exact HO349.out⟩, ⟨w40_⟩⟩
      ·rw [if_neg c8] at H
       exact absurd H (by simp)
     ·rw [if_neg c6] at H
      exact absurd H (by simp)
    ·rw [if_neg c5] at H
     exact absurd H (by simp)
   ·rw [if_neg c4] at H
    have c4b0 := decide_eq_false c4
    clear c4
    replace H := bqz_ H; obtain ⟨t350, A13, H⟩ := H
    replace H : (some t350) = some r := H
    obtain rfl := Option.some.inj H
    obtain ⟨Ao14, co14, eo14⟩ := Kd.R_slice HO_3.out
    subst eo14
    go_wp2_with (first | ((with_reducible refine gate_callee (f := 177) rfl ?_); refine goesL_ (some 20) rfl rfl Tryz.func177 (w110_) rfl #[.slice Ao14 x3_1.length co14, .string (⟨#[44]⟩ : ByteArray)] rfl maz_ ?_; (with_reducible refine (strjoin.calls _ _ x3_1 (⟨#[44]⟩ : ByteArray) t350 _ ?side1 ?side2 A13.out).mono ?_); (case side1 => exact ⟨_, _, (w104_)⟩); (case side2 => exact (Kd.R_reads' HO_3.out).2.1); rintro e w15 ⟨rfl, hb⟩; refine ⟨_, rfl, ?_⟩; replace HO_3 := Az_ (Kd.R_below (w104_) hb); replace HB := Az_ (btz_ (ubz_ HB.out) hb); (try clear hb)))
    go_ret
    exact ⟨w61_, w109_⟩

def impl_RangesText.f (k : Nat) (l0 : List (S69)) : Option (ByteArray × Bool) := (impl_AreRanges.f k l0).bind fun t351 => (if t351 = true then ((impl_rangesText.f k l0).bind fun t352 => (some (t352, true))) else (some ((⟨#[]⟩ : ByteArray), false)))
set_option maxHeartbeats 8000000 in
set_option maxRecDepth 100000 in
theorem impl_RangesText.calls (k : Nat) (A0 : Option Addr) (c0 : Nat) (l0 : List (S69)) (r1 : ByteArray) (r2 : Bool) (w : World) (hT : LibW w) (hr0 : Kd.C k69 w A0 l0.length l0) (hc0 : l0.length ≤ c0) (h : impl_RangesText.f k l0 = some (r1, r2)) :
  Calls Tryz.prog 54 #[.slice A0 l0.length c0] w fun e w' => e = .returned (.tuple #[.string r1, .bool r2]) ∧ Below w.heap.size w w' := by
 have HTAB := Az_ hT
 clear hT
 have HR0 := Az_ hr0
 have HC0 := Az_ hc0
 clear hr0 hc0
 have HB := Az_ (Below.refl w.heap.size w)
 have H : ((impl_AreRanges.f k l0).bind fun t351 => (if t351 = true then ((impl_rangesText.f k l0).bind fun t352 => (some (t352, true))) else (some ((⟨#[]⟩ : ByteArray), false)))) = some (r1, r2) := h
 clear h
 replace H := bqz_ H; obtain ⟨t351, A2, H⟩ := H
 replace H : (if t351 = true then ((impl_rangesText.f k l0).bind fun t352 => (some (t352, true))) else (some ((⟨#[]⟩ : ByteArray), false))) = some (r1, r2) := H
 by_cases c3 : t351 = true
 ·subst c3
  rw [if_pos rfl] at H
  replace H := bqz_ H; obtain ⟨t352, A4, H⟩ := H
  replace H : (some (t352, true)) = some (r1, r2) := H
  simp only [Option.some.injEq, Prod.mk.injEq] at H
  obtain ⟨rfl, rfl⟩ := H
  go_enter Tryz.func54, Tryz.ntmps54
  go_wp2_with (first | ((with_reducible refine gate_callee (f := 43) rfl ?_); refine goesL_ (some 5) rfl rfl Tryz.func43 (w110_) rfl #[.slice A0 l0.length c0] rfl maz_ ?_; (with_reducible refine (impl_AreRanges.calls k _ _ l0 true _ ?side1 ?side2 A2.out).mono ?_); (case side1 => exact ucz_ (HR0.out)); (case side2 => exact HC0.out); rintro e w5 ⟨rfl, hb⟩; refine ⟨_, rfl, ?_⟩; replace HB := Az_ (btz_ (ubz_ HB.out) hb); (try clear hb)) | ((with_reducible refine gate_callee (f := 137) rfl ?_); refine goesL_ (some 8) rfl rfl Tryz.func137 (w110_) rfl #[.slice A0 l0.length c0] rfl maz_ ?_; (with_reducible refine (impl_rangesText.calls k _ _ l0 t352 _ (libW_below HTAB.out (ubz_ HB.out)) ?side1 ?side2 A4.out).mono ?_); (case side1 => exact ucz_ ((Kd.C_below HR0.out HB.out))); (case side2 => exact HC0.out); rintro e w6 ⟨rfl, hb⟩; refine ⟨_, rfl, ?_⟩; replace HB := Az_ (btz_ (ubz_ HB.out) hb); (try clear hb)))
  go_ret2
  exact ⟨w61_, w109_⟩
 ·replace c3 := Bool.eq_false_iff.mpr c3
  subst c3
  rw [if_neg nfz_] at H
  simp only [Option.some.injEq, Prod.mk.injEq] at H
  obtain ⟨rfl, rfl⟩ := H
  go_enter Tryz.func54, Tryz.ntmps54
  go_wp2_with (first | ((with_reducible refine gate_callee (f := 43) rfl ?_); refine goesL_ (some 5) rfl rfl Tryz.func43 (w110_) rfl #[.slice A0 l0.length c0] rfl maz_ ?_; (with_reducible refine (impl_AreRanges.calls k _ _ l0 false _ ?side1 ?side2 A2.out).mono ?_); (case side1 => exact ucz_ (HR0.out)); (case side2 => exact HC0.out); rintro e w7 ⟨rfl, hb⟩; refine ⟨_, rfl, ?_⟩; replace HB := Az_ (btz_ (ubz_ HB.out) hb); (try clear hb)))
  go_ret2
  exact ⟨w61_, w109_⟩

end Go.Proofs.YtppbpefehpbejaaGreatDoor.P
end

section
namespace Go.Proofs.YtppbpefehpbejaaGreatDoor.P
open Go.RowKit Go.Proofs.YtppbpefehpbejaaGreatDoorW.PrintWords Go.Proofs.YtppbpefehpbejaaGreatDoorW.PrintLast Go.Proofs.YtppbpefehpbejaaGreatDoorW.PrintMore
attribute [local go_sem] max2_int min2_int max_two min_two max_three min_three max_four min_four   -- for this text's walks alone
set_option linter.unusedVariables false
set_option linter.unusedSimpArgs false

def spec_l1Num.f : Nat → Int → Option (ByteArray)
 | 0, _ => none
 | k + 1, a0 => if a0 < 10 then (some (strOfNums (([(wrap64 (48 + a0)) % 256] : List Int)))) else ((spec_l1Num.f k (wrap64 (Int.tdiv a0 10))).bind fun t356 => ((some (([(wrap64 (48 + (Int.tmod a0 10))) % 256] : List Int) : List Int)).bind fun y357 => (if t356.size + (strOfNums y357).size ≤ 9223372036854775807 then (some (t356 ++ (strOfNums y357))) else (none))))
def spec_l1Num.T3 : Bool × List (List Nat × List Nat) := (true, [([], []), ([0], [0]), ([1], [1]), ([], []), ([3], [3]), ([4], [4]), ([5], [5]), ([6], [6]), ([7], [7]), ([2, 8], [2, 8]), ([9, 2, 0, 1, 2, 3, 4, 5, 6, 7, 8, 9], [9])])
def spec_l1Num.B3 : List Nat := [0, 1, 3, 0, 8, 24, 56, 120, 248, 511, 1023]
theorem spec_l1Num.tab3 : rtab .any (opsOf Tryz.f167 3) = spec_l1Num.T3 := by kernel_rfl
theorem spec_l1Num.bits3 : waitsOk spec_l1Num.T3.2 spec_l1Num.B3 = true := by kernel_rfl
set_option maxHeartbeats 8000000 in
set_option maxRecDepth 100000 in
theorem spec_l1Num.calls (k : Nat) : ∀ (a0 : Int) (r : ByteArray) (w : World) (h : spec_l1Num.f k a0 = some r),
  Calls Tryz.prog 167 #[.int .i64 a0] w fun e w' => e = .returned (.string r) ∧ Below w.heap.size w w' := by
 induction k using Nat.strongRecOn with
 | _ k ih =>
 intro a0 r w h
 cases k with
 | zero => exact absurd h (by simp [spec_l1Num.f])
 | succ k =>
 simp only [spec_l1Num.f] at h
 have HB := Az_ (Below.refl w.heap.size w)
 have H : (if a0 < 10 then (some (strOfNums (([(wrap64 (48 + a0)) % 256] : List Int)))) else ((spec_l1Num.f k (wrap64 (Int.tdiv a0 10))).bind fun t356 => ((some (([(wrap64 (48 + (Int.tmod a0 10))) % 256] : List Int) : List Int)).bind fun y357 => (if t356.size + (strOfNums y357).size ≤ 9223372036854775807 then (some (t356 ++ (strOfNums y357))) else (none))))) = some r := h
 clear h
 by_cases c2 : a0 < 10
 ·rw [if_pos c2] at H
  have c2b0 := decide_eq_true c2
  clear c2
  obtain ⟨y353, hy353⟩ : ∃ y_ : List Int, y_ = (([(wrap64 (48 + a0)) % 256] : List Int)) := ⟨_, rfl⟩
  replace H : (some (strOfNums y353)) = some r := by first | (rw [hy353]; with_reducible exact H) | (have H2_ := (Option.bind_some _ _).symm.trans H; rw [hy353]; with_reducible exact H2_) | (have H2_ := (Option.bind_some _ _).symm.trans H; with_reducible exact H2_) | with_reducible exact H | (rw [hy353]; exact H) | exact H
  have Ny353 := Az_ hy353
  clear hy353
  obtain rfl := Option.some.inj H
  go_enter Tryz.func167, Tryz.ntmps167
  go_wp2_with (first | ((with_reducible refine gate_dst (N := 8) rfl ?_); refine Kd.R_lit (Kd.int .u8) _ 5 ?hg (N := 8) ?hd (xs := ([(wrap64 (48 + a0)) % 256] : List Int)) (inner := [.int .u8 ((wrap64 (48 + a0)) % 256)]) (ok := fun _ => True) (okp := fun _ => True) ?hr ?hp (fun _ hk => hk) trivial (Below.refl _ _) (Nat.le_refl _) (by simp) ?_; (case hd => rfl); (case hg => rfl); (case hr => first | (go_simp; done) | (go_simp; rfl)); (case hp => exact (Reps.one (show Kd.M (Kd.int .u8) _ _ _ ((wrap64 (48 + a0)) % 256) [.int .u8 ((wrap64 (48 + a0)) % 256)] from rfl) (Reps.none _ _))); intro v354 w3 ho4 hb hg_ hnew_; clear hg_ hnew_; (first | rw [← Ny353.out] at ho4 | (simp only [Int.reduceToNat] at ho4; rw [← Ny353.out] at ho4)); have HO355 := Az_ (Kd.R_lower ho4 (below_size (ubz_ HB.out))); replace HB := Az_ (btz_ (ubz_ HB.out) hb); clear hb ho4; have hcv5 := own_string (P := Tryz.prog) Tryz.underlying22 Tryz.underlying5 Tryz.underlying9 (Kd.own_of_R HO355.out)))
  go_ret
  exact ⟨w61_, w109_⟩
 ·rw [if_neg c2] at H
  have c2b0 := decide_eq_false c2
  clear c2
  replace H := bqz_ H; obtain ⟨t356, A6, H⟩ := H
  replace H : ((some (([(wrap64 (48 + (Int.tmod a0 10))) % 256] : List Int) : List Int)).bind fun y357 => (if t356.size + (strOfNums y357).size ≤ 9223372036854775807 then (some (t356 ++ (strOfNums y357))) else (none))) = some r := H
  obtain ⟨y357, hy357⟩ : ∃ y_ : List Int, y_ = (([(wrap64 (48 + (Int.tmod a0 10))) % 256] : List Int)) := ⟨_, rfl⟩
  replace H : (if t356.size + (strOfNums y357).size ≤ 9223372036854775807 then (some (t356 ++ (strOfNums y357))) else (none)) = some r := by first | (rw [hy357]; with_reducible exact H) | (have H2_ := (Option.bind_some _ _).symm.trans H; rw [hy357]; with_reducible exact H2_) | (have H2_ := (Option.bind_some _ _).symm.trans H; with_reducible exact H2_) | with_reducible exact H | (rw [hy357]; exact H) | exact H
  have Ny357 := Az_ hy357
  clear hy357
  by_cases c7 : t356.size + (strOfNums y357).size ≤ 9223372036854775807
  ·rw [if_pos c7] at H
   have c7b0 := eq_true c7
   have c7b1 := decide_eq_true c7
   try have c7b2 : (9223372036854775807 < t356.size + (strOfNums y357).size) = False := eq_false (Nat.not_lt.2 c7)
   obtain rfl := Option.some.inj H
   go_enter Tryz.func167, Tryz.ntmps167
   try go_wp2
   have n0_ := Az_ (bdz_ HB.out)
   clear HB
   have HB := n0_
   clear n0_
   refine start_ (n := 11) (S := fun w' => True) (ds := []) #[false, false, false, false, false, false, false, false, false, false, false] (w110_) rfl rfl trivial (fun hHeld => ?_); refine with_tabW spec_l1Num.tab3 spec_l1Num.bits3 (fun HT_ HW_ => ?_)
   generalize w.drew = w8 at HB hHeld ⊢
   refine pure_ (i := 0) (N := some 10) (v := ?_) (a' := ?_) (mz_ [1,10]) rfl rfl (any_of HT_.out (w110_)) (fun _ _ _ h => h) (Or.inl ⟨by rfl, ?_⟩) ?_ ?_
   rotate_left
   ·intro w'
    go_simp
    with_reducible rfl
   rotate_left
   ·simp only [Act.put, usz_, utz_, uvz_, i64_w, i32_w]
    rfl
   refine pure_ (i := 1) (N := some 11) (v := ?_) (a' := ?_) (mz_ [2,9]) rfl rfl (any_of HT_.out (w110_)) (fun _ _ _ h => h) (Or.inl ⟨by rfl, ?_⟩) ?_ ?_
   rotate_left
   ·intro w'
    go_simp
    with_reducible rfl
   rotate_left
   ·simp only [Act.put, usz_, utz_, uvz_, i64_w, i32_w]
    rfl
   refine pure_ (i := 3) (N := some 13) (v := ?_) (a' := ?_) (mz_ [2,1,1,7]) rfl rfl (any_of HT_.out (w110_)) (fun _ _ _ h => h) (Or.inl ⟨by rfl, ?_⟩) ?_ ?_
   rotate_left
   ·intro w'
    go_simp
    with_reducible rfl
   rotate_left
   ·simp only [Act.put, usz_, utz_, uvz_, i64_w, i32_w]
    rfl
   refine pure_ (i := 4) (N := some 14) (v := ?_) (a' := ?_) (mz_ [2,1,2,6]) rfl rfl (any_of HT_.out (w110_)) (fun _ _ _ h => h) (Or.inl ⟨by rfl, ?_⟩) ?_ ?_
   rotate_left
   ·intro w'
    go_simp
    with_reducible rfl
   rotate_left
   ·simp only [Act.put, usz_, utz_, uvz_, i64_w, i32_w]
    rfl
   refine pure_ (i := 5) (N := some 15) (v := ?_) (a' := ?_) (mz_ [2,1,3,5]) rfl rfl (any_of HT_.out (w110_)) (fun _ _ _ h => h) (Or.inl ⟨by rfl, ?_⟩) ?_ ?_
   rotate_left
   ·intro w'
    go_simp
    with_reducible rfl
   rotate_left
   ·simp only [Act.put, usz_, utz_, uvz_, i64_w, i32_w]
    rfl
   refine pure_ (i := 6) (N := some 16) (v := ?_) (a' := ?_) (mz_ [2,1,4,4]) rfl rfl (any_of HT_.out (w110_)) (fun _ _ _ h => h) (Or.inl ⟨by rfl, ?_⟩) ?_ ?_
   rotate_left
   ·intro w'
    go_simp
    with_reducible rfl
   rotate_left
   ·simp only [Act.put, usz_, utz_, uvz_, i64_w, i32_w]
    rfl
   refine join_ (σ := Value) 2 #[true, true, true, true, true, true, true, true, true, false, false] (fun s_ => [(12, .string t356), (17, s_), (18, .string (strOfNums y357))]) (fun s_ w' => (Kd.R (Kd.int .u8) 5 w' w.heap.size (fun _ => True) s_ y357) ∧ (Below w.heap.size w w')) ?_ ?_
   rotate_left
   ·intro hCont
    refine two_ (i := 2) (j := 7) (Ni := some 12) (Nj := some 17) (mz_ [7,4]) #[true, true, false, true, true, true, true, true, false, false, false] rfl rfl rfl rfl (two_of HT_.out (w110_)) (by decide) (by decide) (fun K hK => ?_) (fun K hK => ?_)
    ·skip
     refine goes_ Tryz.func167 (w110_) rfl #[.int .i64 (wrap64 (Int.tdiv a0 10))] (by rfl) rfl rfl maz_ ?_
     with_reducible refine (ih k (by omega) (wrap64 (Int.tdiv a0 10)) t356 _ A6.out).mono ?_
     rintro e w9 ⟨rfl, hb⟩
     refine ⟨_, rfl, ?_⟩
     have n0_ := Az_ (btz_ (ubz_ HB.out) hb)
     clear HB
     have HB := n0_
     clear n0_
     clear hb
     refine hK.out _ _ trivial (fun hHeld => ?_)
     clear hK K
     refine norm_ (a' := ?_) ?_ ?_
     rotate_left
     ·show Act.put _ (some 12) _ = _
      simp only [Act.put, usz_, utz_, uvz_, i64_w, i32_w]
      rfl
     refine one_ (i := 7) (N := some 17) (mz_ [8,3]) rfl rfl (one_of HT_.out (w110_)) (by decide) (fun K hK => ?_)
     refine Kd.R_lit_step (Kd.int .u8) _ 5 ?hg (N := 17) ?hd (xs := ([(wrap64 (48 + (Int.tmod a0 10))) % 256] : List Int)) (inner := [.int .u8 ((wrap64 (48 + (Int.tmod a0 10))) % 256)]) (ok := fun _ => True) (okp := fun _ => True) ?hr ?hp (fun _ hk => hk) trivial (Below.refl _ _) (Nat.le_refl _) (by simp) ?_; (case hd => rfl); (case hg => rfl); (case hr => first | (go_simp; done) | (go_simp; rfl)); (case hp => exact (Reps.one (show Kd.M (Kd.int .u8) _ _ _ ((wrap64 (48 + (Int.tmod a0 10))) % 256) [.int .u8 ((wrap64 (48 + (Int.tmod a0 10))) % 256)] from rfl) (Reps.none _ _)))
     intro v358 w10 ho11 hb hg_ hnew_
     clear hg_ hnew_
     (first | rw [← Ny357.out] at ho11 | (simp only [Int.reduceToNat] at ho11; rw [← Ny357.out] at ho11))
     have n0_ := Az_ (Kd.R_lower ho11 (below_size (ubz_ HB.out)))
     have n1_ := Az_ (btz_ (ubz_ HB.out) hb)
     clear HB
     have HO359 := n0_
     have HB := n1_
     clear n0_ n1_ hb ho11
     refine hK.out _ _ trivial (fun hHeld => ?_)
     clear hK K
     refine norm_ (a' := ?_) ?_ ?_
     rotate_left
     ·show Act.put _ (some 17) _ = _
      simp only [Act.put, usz_, utz_, uvz_, i64_w, i32_w]
      rfl
     refine one_ (i := 8) (N := some 18) (mz_ [9,2]) rfl rfl (one_of HT_.out (w110_)) (by decide) (fun K hK => ?_)
     have hcv12 := own_string (P := Tryz.prog) Tryz.underlying22 Tryz.underlying5 Tryz.underlying9 (Kd.own_of_R HO359.out)
     refine value_ (w1 := ?_) (v := ?_) (by rfl) rfl ?_ ?_
     rotate_left 2
     ·go_simp
      constructor
      ·rfl
      ·rfl
     clear hcv12
     refine hK.out _ _ trivial (fun hHeld => ?_)
     clear hK K
     refine norm_ (a' := ?_) ?_ ?_
     rotate_left
     ·show Act.put _ (some 18) _ = _
      simp only [Act.put, usz_, utz_, uvz_, i64_w, i32_w]
      rfl
     exact norm_ (w60_) (hCont (v358) _ ⟨(by exact urz_ HO359.out), (ubz_ HB.out)⟩)
    ·skip
     refine Kd.R_lit_step (Kd.int .u8) _ 5 ?hg (N := 17) ?hd (xs := ([(wrap64 (48 + (Int.tmod a0 10))) % 256] : List Int)) (inner := [.int .u8 ((wrap64 (48 + (Int.tmod a0 10))) % 256)]) (ok := fun _ => True) (okp := fun _ => True) ?hr ?hp (fun _ hk => hk) trivial (Below.refl _ _) (Nat.le_refl _) (by simp) ?_; (case hd => rfl); (case hg => rfl); (case hr => first | (go_simp; done) | (go_simp; rfl)); (case hp => exact (Reps.one (show Kd.M (Kd.int .u8) _ _ _ ((wrap64 (48 + (Int.tmod a0 10))) % 256) [.int .u8 ((wrap64 (48 + (Int.tmod a0 10))) % 256)] from rfl) (Reps.none _ _)))
     intro v358 w9 ho10 hb hg_ hnew_
     clear hg_ hnew_
     (first | rw [← Ny357.out] at ho10 | (simp only [Int.reduceToNat] at ho10; rw [← Ny357.out] at ho10))
     have n0_ := Az_ (Kd.R_lower ho10 (below_size (ubz_ HB.out)))
     have n1_ := Az_ (btz_ (ubz_ HB.out) hb)
     clear HB
     have HO359 := n0_
     have HB := n1_
     clear n0_ n1_ hb ho10
     refine hK.out _ _ trivial (fun hHeld => ?_)
     clear hK K
     refine norm_ (a' := ?_) ?_ ?_
     rotate_left
     ·show Act.put _ (some 17) _ = _
      simp only [Act.put, usz_, utz_, uvz_, i64_w, i32_w]
      rfl
     refine two_ (i := 2) (j := 8) (Ni := some 12) (Nj := some 18) (mz_ [8,3]) #[true, true, false, true, true, true, true, true, true, false, false] rfl rfl rfl rfl (two_of HT_.out (w110_)) (by decide) (by decide) (fun K hK => ?_) (fun K hK => ?_)
     ·skip
      refine goes_ Tryz.func167 (w110_) rfl #[.int .i64 (wrap64 (Int.tdiv a0 10))] (by rfl) rfl rfl maz_ ?_
      with_reducible refine (ih k (by omega) (wrap64 (Int.tdiv a0 10)) t356 _ A6.out).mono ?_
      rintro e w11 ⟨rfl, hb⟩
      refine ⟨_, rfl, ?_⟩
      have n0_ := Az_ (Kd.R_below (by exact urz_ HO359.out) hb)
      have n1_ := Az_ (btz_ (ubz_ HB.out) hb)
      clear HO359 HB
      have HO359 := n0_
      have HB := n1_
      clear n0_ n1_
      clear hb
      refine hK.out _ _ trivial (fun hHeld => ?_)
      clear hK K
      refine norm_ (a' := ?_) ?_ ?_
      rotate_left
      ·show Act.put _ (some 12) _ = _
       simp only [Act.put, usz_, utz_, uvz_, i64_w, i32_w]
       rfl
      refine one_ (i := 8) (N := some 18) (mz_ [9,2]) rfl rfl (one_of HT_.out (w110_)) (by decide) (fun K hK => ?_)
      have hcv12 := own_string (P := Tryz.prog) Tryz.underlying22 Tryz.underlying5 Tryz.underlying9 (Kd.own_of_R HO359.out)
      refine value_ (w1 := ?_) (v := ?_) (by rfl) rfl ?_ ?_
      rotate_left 2
      ·go_simp
       constructor
       ·rfl
       ·rfl
      clear hcv12
      refine hK.out _ _ trivial (fun hHeld => ?_)
      clear hK K
      refine norm_ (a' := ?_) ?_ ?_
      rotate_left
      ·show Act.put _ (some 18) _ = _
       simp only [Act.put, usz_, utz_, uvz_, i64_w, i32_w]
       rfl
      exact norm_ (w60_) (hCont (v358) _ ⟨(by exact urz_ HO359.out), (ubz_ HB.out)⟩)
     ·skip
      have hcv11 := own_string (P := Tryz.prog) Tryz.underlying22 Tryz.underlying5 Tryz.underlying9 (Kd.own_of_R HO359.out)
      refine value_ (w1 := ?_) (v := ?_) (by rfl) rfl ?_ ?_
      rotate_left 2
      ·go_simp
       constructor
       ·rfl
       ·rfl
      clear hcv11
      refine hK.out _ _ trivial (fun hHeld => ?_)
      clear hK K
      refine norm_ (a' := ?_) ?_ ?_
      rotate_left
      ·show Act.put _ (some 18) _ = _
       simp only [Act.put, usz_, utz_, uvz_, i64_w, i32_w]
       rfl
      refine one_ (i := 2) (N := some 12) (mz_ [9,2]) rfl rfl (one_of HT_.out (w110_)) (by decide) (fun K hK => ?_)
      refine goes_ Tryz.func167 (w110_) rfl #[.int .i64 (wrap64 (Int.tdiv a0 10))] (by rfl) rfl rfl maz_ ?_
      with_reducible refine (ih k (by omega) (wrap64 (Int.tdiv a0 10)) t356 _ A6.out).mono ?_
      rintro e w12 ⟨rfl, hb⟩
      refine ⟨_, rfl, ?_⟩
      have n0_ := Az_ (Kd.R_below (by exact urz_ HO359.out) hb)
      have n1_ := Az_ (btz_ (ubz_ HB.out) hb)
      clear HO359 HB
      have HO359 := n0_
      have HB := n1_
      clear n0_ n1_
      clear hb
      refine hK.out _ _ trivial (fun hHeld => ?_)
      clear hK K
      refine norm_ (a' := ?_) ?_ ?_
      rotate_left
      ·show Act.put _ (some 12) _ = _
       simp only [Act.put, usz_, utz_, uvz_, i64_w, i32_w]
       rfl
      exact norm_ (w60_) (hCont (v358) _ ⟨(by exact urz_ HO359.out), (ubz_ HB.out)⟩)
   rintro v358 w13 ⟨h0_, h1_⟩
   have n0_ : Aside0 (Kd.R (Kd.int .u8) 5 w13 w.heap.size (fun _ => True) v358 y357) := ⟨h0_⟩
   have n1_ : Aside0 (Below w.heap.size w w13) := ⟨h1_⟩
   clear HB h0_ h1_
   have HO359 := n0_
   have HB := n1_
   clear n0_ n1_
   have hHeld := trivial
   refine norm_ (a' := ?_) ?_ ?_
   rotate_left
   ·simp only [putAll, Act.put, List.setIfInBounds_toArray, List.set_cons_zero, List.set_cons_succ]
    rfl
   refine pure_ (i := 9) (N := some 19) (v := ?_) (a' := ?_) (mz_ [10,1]) rfl rfl (any_of HT_.out (w110_)) (fun _ _ _ h => h) (Or.inl ⟨by rfl, ?_⟩) ?_ ?_
   rotate_left
   ·intro w'
    go_simp
    with_reducible rfl
   rotate_left
   ·simp only [Act.put, usz_, utz_, uvz_, i64_w, i32_w]
    rfl
   refine pure_ (i := 10) (N := some 2) (v := ?_) (a' := ?_) (mz_ [11]) rfl rfl (any_of HT_.out (w110_)) (fun _ _ _ h => h) (Or.inl ⟨by rfl, ?_⟩) ?_ ?_
   rotate_left
   ·intro w'
    go_simp
    with_reducible rfl
   rotate_left
   ·simp only [Act.put, usz_, utz_, uvz_, i64_w, i32_w]
    rfl
   refine done_ (done_of HT_.out (w110_)) ?_
   try go_wp2
   go_ret
   exact ⟨w61_, w109_⟩
  ·rw [if_neg c7] at H
   exact absurd H (by simp)

end Go.Proofs.YtppbpefehpbejaaGreatDoor.P
end

section
namespace Go.Proofs.YtppbpefehpbejaaGreatDoor.P
open Go.RowKit Go.Proofs.YtppbpefehpbejaaGreatDoorW.PrintWords Go.Proofs.YtppbpefehpbejaaGreatDoorW.PrintLast Go.Proofs.YtppbpefehpbejaaGreatDoorW.PrintMore
attribute [local go_sem] max2_int min2_int max_two min_two max_three min_three max_four min_four   -- for this text's walks alone
set_option linter.unusedVariables false
set_option linter.unusedSimpArgs false

def spec_ixShort.l0 : Nat → ByteArray → ByteArray → Int → Option (ByteArray)
 | 0, _, _, _ => none
 | k + 1, x3, x4, x5 => if 0 ≤ x5 then (if x5 < (x3.size : Int) then (if x5 < (x4.size : Int) then (if (bt x3 x5) = (bt x4 x5) then (spec_ixShort.l0 k x3 x4 (wrap64 (x5 + 1))) else (if x5 ≤ (x4.size : Int) then (if x3.size + 1 ≤ 9223372036854775807 then (if (x3 ++ (⟨#[45]⟩ : ByteArray)).size + (x4.extract (x5 : Int).toNat x4.size).size ≤ 9223372036854775807 then (some ((x3 ++ (⟨#[45]⟩ : ByteArray)) ++ (x4.extract (x5 : Int).toNat x4.size))) else (none)) else (none)) else (none))) else (none)) else (none)) else (none)
def spec_ixShort.f (k : Nat) (a0_0 : Int) (a0_1 : Int) : Option (ByteArray) := (spec_l1Num.f k a0_0).bind fun t361 => ((spec_l1Num.f k a0_1).bind fun t362 => (if a0_0 = a0_1 then (some t361) else (if (t361.size : Int) = (t362.size : Int) then (spec_ixShort.l0 k t361 t362 0) else (if t361.size + 1 ≤ 9223372036854775807 then (if (t361 ++ (⟨#[45]⟩ : ByteArray)).size + t362.size ≤ 9223372036854775807 then (some ((t361 ++ (⟨#[45]⟩ : ByteArray)) ++ t362)) else (none)) else (none)))))
def spec_ixShort.T1 : Bool × List (List Nat × List Nat) := (true, [([], []), ([0], [0]), ([1], [1]), ([], []), ([3], [3]), ([4, 2], [4]), ([2, 5, 0, 1, 2], [2]), ([5, 6, 0, 1, 2, 3, 4, 5, 6], [5])])
def spec_ixShort.B1 : List Nat := [0, 1, 3, 0, 8, 31, 63, 127]
theorem spec_ixShort.tab1 : rtab .any (opsOf Tryz.f178 1) = spec_ixShort.T1 := by kernel_rfl
theorem spec_ixShort.bits1 : waitsOk spec_ixShort.T1.2 spec_ixShort.B1 = true := by kernel_rfl
set_option maxHeartbeats 8000000 in
set_option maxRecDepth 100000 in
theorem spec_ixShort.calls (k : Nat) (a0_0 : Int) (a0_1 : Int) (r : ByteArray) (w : World) (h : spec_ixShort.f k a0_0 a0_1 = some r) :
  Calls Tryz.prog 178 #[.agg #[.int .i64 a0_0, .int .i64 a0_1]] w fun e w' => e = .returned (.string r) ∧ Below w.heap.size w w' := by
 have hu69 := Tryz.underlying69
 have HB := Az_ (Below.refl w.heap.size w)
 have H : ((spec_l1Num.f k a0_0).bind fun t361 => ((spec_l1Num.f k a0_1).bind fun t362 => (if a0_0 = a0_1 then (some t361) else (if (t361.size : Int) = (t362.size : Int) then (spec_ixShort.l0 k t361 t362 0) else (if t361.size + 1 ≤ 9223372036854775807 then (if (t361 ++ (⟨#[45]⟩ : ByteArray)).size + t362.size ≤ 9223372036854775807 then (some ((t361 ++ (⟨#[45]⟩ : ByteArray)) ++ t362)) else (none)) else (none)))))) = some r := h
 clear h
 replace H := bqz_ H; obtain ⟨t361, A2, H⟩ := H
 replace H := bqz_ H; obtain ⟨t362, A3, H⟩ := H
 replace H : (if a0_0 = a0_1 then (some t361) else (if (t361.size : Int) = (t362.size : Int) then (spec_ixShort.l0 k t361 t362 0) else (if t361.size + 1 ≤ 9223372036854775807 then (if (t361 ++ (⟨#[45]⟩ : ByteArray)).size + t362.size ≤ 9223372036854775807 then (some ((t361 ++ (⟨#[45]⟩ : ByteArray)) ++ t362)) else (none)) else (none)))) = some r := H
 by_cases c4 : a0_0 = a0_1
 ·rw [if_pos c4] at H
  have c4b0 : (a0_0 == a0_1) = true := beq_iff_eq.mpr c4
  have c4b1 : (a0_0 != a0_1) = false := bne_eq_false_iff_eq.mpr c4
  clear c4
  obtain rfl := Option.some.inj H
  go_enter Tryz.func178, Tryz.ntmps178
  try go_wp2_with (first | ((with_reducible refine gate_dst (N := 1) rfl ?_); refine box_event ?hg (N := 1) ?hd (cs := #[.int .i64 a0_0, .int .i64 a0_1]) (t := 69) ?hr ?_; (case hd => rfl); (case hg => rfl); (case hr => first | (go_simp; done) | (go_simp; rfl)); intro gb360 hg w5 hbox hb; have BK360 := Az_ (hbox); have GW360 := Az_ ((by rw [hg]; exact (below_size (ubz_ HB.out)) : w.heap.size ≤ gb360)); have GE360 := Az_ ((by rw [hg]; exact (below_size (ubz_ HB.out)) : w.heap.size ≤ gb360)); replace HB := Az_ (btz_ (ubz_ HB.out) hb); clear hb hbox hg))
  have n0_ := Az_ (kdz_ BK360.out)
  have n1_ := Az_ (bdz_ HB.out)
  clear BK360 HB
  have BK360 := n0_
  have HB := n1_
  clear n0_ n1_
  refine start_ (n := 8) (S := fun w' => w'.cell? ⟨gb360, 0, none⟩ = some (.int .i64 a0_0) ∧ w'.cell? ⟨gb360, 1, none⟩ = some (.int .i64 a0_1)) (ds := []) #[false, false, false, false, false, false, false, false] (w110_) rfl rfl ⟨(blk_cell BK360.out 0).trans rfl, (blk_cell BK360.out 1).trans rfl⟩ (fun hHeld => ?_); refine with_tabW spec_ixShort.tab1 spec_ixShort.bits1 (fun HT_ HW_ => ?_)
  generalize w5.drew = w6 at BK360 HB hHeld ⊢
  refine pure_ (i := 0) (N := some 6) (v := ?_) (a' := ?_) (mz_ [1,7]) rfl rfl (any_of HT_.out (w110_)) (fun _ _ _ h => h) (Or.inl ⟨by rfl, ?_⟩) ?_ ?_
  rotate_left
  ·intro w'
   go_simp
   with_reducible rfl
  rotate_left
  ·simp only [Act.put, usz_, utz_, uvz_, i64_w, i32_w]
   rfl
  refine pure_ (i := 3) (N := some 9) (v := ?_) (a' := ?_) (mz_ [1,2,1,4]) rfl rfl (any_of HT_.out (w110_)) (fun _ _ _ h => h) (Or.inl ⟨by rfl, ?_⟩) ?_ ?_
  rotate_left
  ·intro w'
   go_simp
   with_reducible rfl
  rotate_left
  ·simp only [Act.put, usz_, utz_, uvz_, i64_w, i32_w]
   rfl
  refine take_ (i := 1) (N := some 7) (v := ?_) (a' := ?_) (mz_ [2,1,1,4]) rfl rfl (take_ofW HT_.out HW_.out (w110_)) (fun _ _ _ h => h) (Or.inl ⟨by rfl, ?_⟩) hHeld ?_ ?_
  rotate_left
  ·rintro w' ⟨s0, s1⟩
   go_simp
   with_reducible rfl
  rotate_left
  ·simp only [Act.put, usz_, utz_, uvz_, i64_w, i32_w]
   rfl
  refine take_ (i := 4) (N := some 10) (v := ?_) (a' := ?_) (mz_ [2,1,2,3]) rfl rfl (take_ofW HT_.out HW_.out (w110_)) (fun _ _ _ h => h) (Or.inl ⟨by rfl, ?_⟩) hHeld ?_ ?_
  rotate_left
  ·rintro w' ⟨s0, s1⟩
   go_simp
   with_reducible rfl
  rotate_left
  ·simp only [Act.put, usz_, utz_, uvz_, i64_w, i32_w]
   rfl
  refine one_ (i := 2) (N := some 8) (mz_ [5,3]) rfl rfl (one_of HT_.out (w110_)) (by decide) (fun K hK => ?_)
  refine goes_ Tryz.func167 (w110_) rfl #[.int .i64 a0_0] (by rfl) rfl rfl maz_ ?_
  with_reducible refine (spec_l1Num.calls k a0_0 t361 _ A2.out).mono ?_
  rintro e w7 ⟨rfl, hb⟩
  refine ⟨_, rfl, ?_⟩
  have n1_ := Az_ (btz_ (w40_) hb)
  clear HB
  replace BK360 := Az_ (ukbz_ BK360.out hb)
  have HB := n1_
  clear n1_
  clear hb
  refine hK.out _ _ ⟨(blk_cell BK360.out 0).trans rfl, (blk_cell BK360.out 1).trans rfl⟩ (fun hHeld => ?_)
  clear hK K
  refine norm_ (a' := ?_) ?_ ?_
  rotate_left
  ·show Act.put _ (some 8) _ = _
   simp only [Act.put, usz_, utz_, uvz_, i64_w, i32_w]
   rfl
  refine one_ (i := 5) (N := some 11) (mz_ [6,2]) rfl rfl (one_of HT_.out (w110_)) (by decide) (fun K hK => ?_)
  refine goes_ Tryz.func167 (w110_) rfl #[.int .i64 a0_1] (by rfl) rfl rfl maz_ ?_
  with_reducible refine (spec_l1Num.calls k a0_1 t362 _ A3.out).mono ?_
  rintro e w8 ⟨rfl, hb⟩
  refine ⟨_, rfl, ?_⟩
  have n1_ := Az_ (btz_ (w40_) hb)
  clear HB
  replace BK360 := Az_ (ukbz_ BK360.out hb)
  have HB := n1_
  clear n1_
  clear hb
  refine hK.out _ _ ⟨(blk_cell BK360.out 0).trans rfl, (blk_cell BK360.out 1).trans rfl⟩ (fun hHeld => ?_)
  clear hK K
  refine norm_ (a' := ?_) ?_ ?_
  rotate_left
  ·show Act.put _ (some 11) _ = _
   simp only [Act.put, usz_, utz_, uvz_, i64_w, i32_w]
   rfl
  refine pure_ (i := 6) (N := some 3) (v := ?_) (a' := ?_) (mz_ [7,1]) rfl rfl (any_of HT_.out (w110_)) (fun _ _ _ h => h) (Or.inl ⟨by rfl, ?_⟩) ?_ ?_
  rotate_left
  ·intro w'
   go_simp
   with_reducible rfl
  rotate_left
  ·simp only [Act.put, usz_, utz_, uvz_, i64_w, i32_w]
   rfl
  refine pure_ (i := 7) (N := some 4) (v := ?_) (a' := ?_) (mz_ [8]) rfl rfl (any_of HT_.out (w110_)) (fun _ _ _ h => h) (Or.inl ⟨by rfl, ?_⟩) ?_ ?_
  rotate_left
  ·intro w'
   go_simp
   with_reducible rfl
  rotate_left
  ·simp only [Act.put, usz_, utz_, uvz_, i64_w, i32_w]
   rfl
  refine done_ (done_of HT_.out (w110_)) ?_
  have hcz9_0 : w8.cell? ⟨gb360, 0, none⟩ = some (.int .i64 a0_0) := (blk_cell BK360.out 0).trans rfl
  have hcz9_1 : w8.cell? ⟨gb360, 1, none⟩ = some (.int .i64 a0_1) := (blk_cell BK360.out 1).trans rfl
  have hfz9_0 := blk_frozen BK360.out 0
  have hfz9_1 := blk_frozen BK360.out 1
  try go_wp2
  go_ret
  exact ⟨w61_, w40_⟩
 ·rw [if_neg c4] at H
  have c4b0 : (a0_0 == a0_1) = false := beq_eq_false_iff_ne.mpr c4
  have c4b1 : (a0_0 != a0_1) = true := bne_iff_ne.mpr c4
  by_cases c10 : (t361.size : Int) = (t362.size : Int)
  ·rw [if_pos c10] at H
   have c10b0 : ((t361.size : Int) == (t362.size : Int)) = true := beq_iff_eq.mpr c10
   have c10b1 : ((t361.size : Int) != (t362.size : Int)) = false := bne_eq_false_iff_eq.mpr c10
   have c10b2 : (t361.size == t362.size) = true := by first | simpa using c10 | (simp at c10 ⊢; omega)
   clear c10
   have H' := Az_ H
   clear H
   go_enter Tryz.func178, Tryz.ntmps178
   try go_wp2_with (first | ((with_reducible refine gate_dst (N := 1) rfl ?_); refine box_event ?hg (N := 1) ?hd (cs := #[.int .i64 a0_0, .int .i64 a0_1]) (t := 69) ?hr ?_; (case hd => rfl); (case hg => rfl); (case hr => first | (go_simp; done) | (go_simp; rfl)); intro gb360 hg w11 hbox hb; have BK360 := Az_ (hbox); have GW360 := Az_ ((by rw [hg]; exact (below_size (ubz_ HB.out)) : w.heap.size ≤ gb360)); have GE360 := Az_ ((by rw [hg]; exact (below_size (ubz_ HB.out)) : w.heap.size ≤ gb360)); replace HB := Az_ (btz_ (ubz_ HB.out) hb); clear hb hbox hg))
   have n0_ := Az_ (kdz_ BK360.out)
   have n1_ := Az_ (bdz_ HB.out)
   clear BK360 HB
   have BK360 := n0_
   have HB := n1_
   clear n0_ n1_
   refine start_ (n := 8) (S := fun w' => w'.cell? ⟨gb360, 0, none⟩ = some (.int .i64 a0_0) ∧ w'.cell? ⟨gb360, 1, none⟩ = some (.int .i64 a0_1)) (ds := []) #[false, false, false, false, false, false, false, false] (w110_) rfl rfl ⟨(blk_cell BK360.out 0).trans rfl, (blk_cell BK360.out 1).trans rfl⟩ (fun hHeld => ?_); refine with_tabW spec_ixShort.tab1 spec_ixShort.bits1 (fun HT_ HW_ => ?_)
   generalize w11.drew = w12 at BK360 HB hHeld ⊢
   refine pure_ (i := 0) (N := some 6) (v := ?_) (a' := ?_) (mz_ [1,7]) rfl rfl (any_of HT_.out (w110_)) (fun _ _ _ h => h) (Or.inl ⟨by rfl, ?_⟩) ?_ ?_
   rotate_left
   ·intro w'
    go_simp
    with_reducible rfl
   rotate_left
   ·simp only [Act.put, usz_, utz_, uvz_, i64_w, i32_w]
    rfl
   refine pure_ (i := 3) (N := some 9) (v := ?_) (a' := ?_) (mz_ [1,2,1,4]) rfl rfl (any_of HT_.out (w110_)) (fun _ _ _ h => h) (Or.inl ⟨by rfl, ?_⟩) ?_ ?_
   rotate_left
   ·intro w'
    go_simp
    with_reducible rfl
   rotate_left
   ·simp only [Act.put, usz_, utz_, uvz_, i64_w, i32_w]
    rfl
   refine take_ (i := 1) (N := some 7) (v := ?_) (a' := ?_) (mz_ [2,1,1,4]) rfl rfl (take_ofW HT_.out HW_.out (w110_)) (fun _ _ _ h => h) (Or.inl ⟨by rfl, ?_⟩) hHeld ?_ ?_
   rotate_left
   ·rintro w' ⟨s0, s1⟩
    go_simp
    with_reducible rfl
   rotate_left
   ·simp only [Act.put, usz_, utz_, uvz_, i64_w, i32_w]
    rfl
   refine take_ (i := 4) (N := some 10) (v := ?_) (a' := ?_) (mz_ [2,1,2,3]) rfl rfl (take_ofW HT_.out HW_.out (w110_)) (fun _ _ _ h => h) (Or.inl ⟨by rfl, ?_⟩) hHeld ?_ ?_
   rotate_left
   ·rintro w' ⟨s0, s1⟩
    go_simp
    with_reducible rfl
   rotate_left
   ·simp only [Act.put, usz_, utz_, uvz_, i64_w, i32_w]
    rfl
   refine one_ (i := 2) (N := some 8) (mz_ [5,3]) rfl rfl (one_of HT_.out (w110_)) (by decide) (fun K hK => ?_)
   refine goes_ Tryz.func167 (w110_) rfl #[.int .i64 a0_0] (by rfl) rfl rfl maz_ ?_
   with_reducible refine (spec_l1Num.calls k a0_0 t361 _ A2.out).mono ?_
   rintro e w13 ⟨rfl, hb⟩
   refine ⟨_, rfl, ?_⟩
   have n1_ := Az_ (btz_ (w40_) hb)
   clear HB
   replace BK360 := Az_ (ukbz_ BK360.out hb)
   have HB := n1_
   clear n1_
   clear hb
   refine hK.out _ _ ⟨(blk_cell BK360.out 0).trans rfl, (blk_cell BK360.out 1).trans rfl⟩ (fun hHeld => ?_)
   clear hK K
   refine norm_ (a' := ?_) ?_ ?_
   rotate_left
   ·show Act.put _ (some 8) _ = _
    simp only [Act.put, usz_, utz_, uvz_, i64_w, i32_w]
    rfl
   refine one_ (i := 5) (N := some 11) (mz_ [6,2]) rfl rfl (one_of HT_.out (w110_)) (by decide) (fun K hK => ?_)
   refine goes_ Tryz.func167 (w110_) rfl #[.int .i64 a0_1] (by rfl) rfl rfl maz_ ?_
   with_reducible refine (spec_l1Num.calls k a0_1 t362 _ A3.out).mono ?_
   rintro e w14 ⟨rfl, hb⟩
   refine ⟨_, rfl, ?_⟩
   have n1_ := Az_ (btz_ (w40_) hb)
   clear HB
   replace BK360 := Az_ (ukbz_ BK360.out hb)
   have HB := n1_
   clear n1_
   clear hb
   refine hK.out _ _ ⟨(blk_cell BK360.out 0).trans rfl, (blk_cell BK360.out 1).trans rfl⟩ (fun hHeld => ?_)
   clear hK K
   refine norm_ (a' := ?_) ?_ ?_
   rotate_left
   ·show Act.put _ (some 11) _ = _
    simp only [Act.put, usz_, utz_, uvz_, i64_w, i32_w]
    rfl
   refine pure_ (i := 6) (N := some 3) (v := ?_) (a' := ?_) (mz_ [7,1]) rfl rfl (any_of HT_.out (w110_)) (fun _ _ _ h => h) (Or.inl ⟨by rfl, ?_⟩) ?_ ?_
   rotate_left
   ·intro w'
    go_simp
    with_reducible rfl
   rotate_left
   ·simp only [Act.put, usz_, utz_, uvz_, i64_w, i32_w]
    rfl
   refine pure_ (i := 7) (N := some 4) (v := ?_) (a' := ?_) (mz_ [8]) rfl rfl (any_of HT_.out (w110_)) (fun _ _ _ h => h) (Or.inl ⟨by rfl, ?_⟩) ?_ ?_
   rotate_left
   ·intro w'
    go_simp
    with_reducible rfl
   rotate_left
   ·simp only [Act.put, usz_, utz_, uvz_, i64_w, i32_w]
    rfl
   refine done_ (done_of HT_.out (w110_)) ?_
   have hcz15_0 : w14.cell? ⟨gb360, 0, none⟩ = some (.int .i64 a0_0) := (blk_cell BK360.out 0).trans rfl
   have hcz15_1 : w14.cell? ⟨gb360, 1, none⟩ = some (.int .i64 a0_1) := (blk_cell BK360.out 1).trans rfl
   have hfz15_0 := blk_frozen BK360.out 0
   have hfz15_1 := blk_frozen BK360.out 1
   try go_wp2
   go_loopg [5] k (fun kq v5 w' => ∃ (x5_1 : Int), v5 = .int .i64 x5_1 ∧ Aside0 (spec_ixShort.l0 kq t361 t362 x5_1 = some r) ∧ Aside0 (kq ≤ k) ∧ Aside0 (w'.heap[gb360]? = some (.cells #[.int .i64 a0_0, .int .i64 a0_1] 69 (0, 0))) ∧ Aside0 (Below w.heap.size w w'))
   case atStart => exact ⟨(0), qaz_, H', ⟨Nat.le_refl _⟩, ⟨by (with_reducible repeat (first | refine knz_ ?_ _ | refine kdz_ ?_ | refine kaz_ ?_ _)); exact BK360.out⟩, ⟨w40_⟩⟩
   case round =>
    clear H'
    clear c4 c4b0 c4b1 c10b0 c10b1 c10b2 hcz15_0 hcz15_1 hfz15_0 hfz15_1
    obtain ⟨x5_1, rfl, HA, HK1, BK360, HB⟩ := hrel
    cases gk with
    | zero => exact absurd HA.out (by simp [spec_ixShort.l0])
    | succ k1 =>
     have H := HA.out
     clear HA
     simp only [spec_ixShort.l0] at H
     by_cases c16 : 0 ≤ x5_1
     ·rw [if_pos c16] at H
      have c16b0 := decide_eq_true c16
      clear c16
      by_cases c17 : x5_1 < (t361.size : Int)
      ·rw [if_pos c17] at H
       have c17b0 := decide_eq_true c17
       clear c17
       by_cases c19 : x5_1 < (t362.size : Int)
       ·rw [if_pos c19] at H
        have c19b0 := decide_eq_true c19
        clear c19
        by_cases c21 : (bt t361 x5_1) = (bt t362 x5_1)
        ·rw [if_pos c21] at H
         have c21b0 : ((bt t361 x5_1) == (bt t362 x5_1)) = true := beq_iff_eq.mpr c21
         have c21b1 : ((bt t361 x5_1) != (bt t362 x5_1)) = false := bne_eq_false_iff_eq.mpr c21
         clear c21
         have H' := Az_ H
         clear H
         try go_wp2
         have n0_ := Az_ (kdz_ BK360.out)
         have n1_ := Az_ (bdz_ HB.out)
         clear BK360 HB
         have BK360 := n0_
         have HB := n1_
         clear n0_ n1_
         have p18 : 0 ≤ (x5_1 : Int) := of_decide_eq_true asz_
         have q18 : x5_1 < (t361.size : Int) := of_decide_eq_true asz_
         have hx18 := bt_at t361 x5_1
         replace p18 := eq_true p18
         replace q18 := eq_true q18
         have p20 : 0 ≤ (x5_1 : Int) := of_decide_eq_true asz_
         have q20 : x5_1 < (t362.size : Int) := of_decide_eq_true asz_
         have hx20 := bt_at t362 x5_1
         replace p20 := eq_true p20
         replace q20 := eq_true q20
         refine start_ (n := 7) (S := fun w' => True) (ds := []) #[false, false, false, false, false, false, false] (w110_) rfl rfl trivial (fun hHeld => ?_)
         generalize wr.drew = w22 at BK360 HB hHeld ⊢
         refine pure_ (i := 0) (N := some 23) (v := ?_) (a' := ?_) (mz_ [1,6]) rfl rfl (w110_) (fun _ _ _ h => h) (Or.inl ⟨by rfl, ?_⟩) ?_ ?_
         rotate_left
         ·intro w'
          go_simp
          with_reducible rfl
         rotate_left
         ·simp only [Act.put, usz_, utz_, uvz_, i64_w, i32_w]
          rfl
         refine pure_ (i := 1) (N := some 24) (v := ?_) (a' := ?_) (mz_ [2,5]) rfl rfl (w110_) (fun _ _ _ h => h) (Or.inl ⟨by rfl, ?_⟩) ?_ ?_
         rotate_left
         ·intro w'
          go_simp
          with_reducible rfl
         rotate_left
         ·simp only [Act.put, usz_, utz_, uvz_, i64_w, i32_w]
          rfl
         refine pure_ (i := 3) (N := some 26) (v := ?_) (a' := ?_) (mz_ [2,1,1,3]) rfl rfl (w110_) (fun _ _ _ h => h) (Or.inl ⟨by rfl, ?_⟩) ?_ ?_
         rotate_left
         ·intro w'
          go_simp
          with_reducible rfl
         rotate_left
         ·simp only [Act.put, usz_, utz_, uvz_, i64_w, i32_w]
          rfl
         refine pure_ (i := 4) (N := some 27) (v := ?_) (a' := ?_) (mz_ [2,1,2,2]) rfl rfl (w110_) (fun _ _ _ h => h) (Or.inl ⟨by rfl, ?_⟩) ?_ ?_
         rotate_left
         ·intro w'
          go_simp
          with_reducible rfl
         rotate_left
         ·simp only [Act.put, usz_, utz_, uvz_, i64_w, i32_w]
          rfl
         refine take_ (i := 2) (N := some 25) (v := ?_) (a' := ?_) (mz_ [5,2]) rfl rfl (w110_) (fun _ _ _ h => h) (Or.inl ⟨by rfl, ?_⟩) hHeld ?_ ?_
         rotate_left
         ·intro w' _
          go_simp
          with_reducible rfl
         rotate_left
         ·simp only [Act.put, usz_, utz_, uvz_, i64_w, i32_w]
          rfl
         refine take_ (i := 5) (N := some 28) (v := ?_) (a' := ?_) (mz_ [6,1]) rfl rfl (w110_) (fun _ _ _ h => h) (Or.inl ⟨by rfl, ?_⟩) hHeld ?_ ?_
         rotate_left
         ·intro w' _
          go_simp
          with_reducible rfl
         rotate_left
         ·simp only [Act.put, usz_, utz_, uvz_, i64_w, i32_w]
          rfl
         refine pure_ (i := 6) (N := some 29) (v := ?_) (a' := ?_) (mz_ [7]) rfl rfl (w110_) (fun _ _ _ h => h) (Or.inl ⟨by rfl, ?_⟩) ?_ ?_
         rotate_left
         ·intro w'
          go_simp
          with_reducible rfl
         rotate_left
         ·simp only [Act.put, usz_, utz_, uvz_, i64_w, i32_w]
          rfl
         refine done_ (w110_) ?_
         try go_wp2
         go_roundg k1
         case measure => have := HK1.out; omega
         case rel => exact ⟨(wrap64 (x5_1 + 1)), qaz_, H', ⟨w83_⟩, ⟨by (with_reducible repeat (first | refine knz_ ?_ _ | refine kdz_ ?_ | refine kaz_ ?_ _)); exact BK360.out⟩, ⟨w40_⟩⟩
        ·rw [if_neg c21] at H
         have c21b0 : ((bt t361 x5_1) == (bt t362 x5_1)) = false := beq_eq_false_iff_ne.mpr c21
         have c21b1 : ((bt t361 x5_1) != (bt t362 x5_1)) = true := bne_iff_ne.mpr c21
         have c23b0 := eq_true (of_decide_eq_true asz_ : 0 ≤ x5_1)
         by_cases c24 : x5_1 ≤ (t362.size : Int)
         ·rw [if_pos c24] at H
          have c24b0 := eq_true c24
          have c24b1 := decide_eq_true c24
          clear c24
          by_cases c25 : t361.size + 1 ≤ 9223372036854775807
          ·rw [if_pos c25] at H
           have c25b0 := eq_true c25
           have c25b1 := decide_eq_true c25
           try have c25b2 : (9223372036854775807 < t361.size + 1) = False := eq_false (Nat.not_lt.2 c25)
           by_cases c26 : (t361 ++ (⟨#[45]⟩ : ByteArray)).size + (t362.extract (x5_1 : Int).toNat t362.size).size ≤ 9223372036854775807
           ·rw [if_pos c26] at H
            have c26b0 := eq_true c26
            have c26b1 := decide_eq_true c26
            try have c26b2 : (9223372036854775807 < (t361 ++ (⟨#[45]⟩ : ByteArray)).size + (t362.extract (x5_1 : Int).toNat t362.size).size) = False := eq_false (Nat.not_lt.2 c26)
            have c26b3 : (9223372036854775807 < t361.size + 1 + (t362.extract (x5_1 : Int).toNat t362.size).size) = False := by (have h_ := c26b2; simp only [ByteArray.size_append] at h_; exact h_)
            obtain rfl := Option.some.inj H
            try go_wp2
            have n0_ := Az_ (kdz_ BK360.out)
            have n1_ := Az_ (bdz_ HB.out)
            clear BK360 HB
            have BK360 := n0_
            have HB := n1_
            clear n0_ n1_
            have p18 : 0 ≤ (x5_1 : Int) := of_decide_eq_true asz_
            have q18 : x5_1 < (t361.size : Int) := of_decide_eq_true asz_
            have hx18 := bt_at t361 x5_1
            replace p18 := eq_true p18
            replace q18 := eq_true q18
            have p20 : 0 ≤ (x5_1 : Int) := of_decide_eq_true asz_
            have q20 : x5_1 < (t362.size : Int) := of_decide_eq_true asz_
            have hx20 := bt_at t362 x5_1
            replace p20 := eq_true p20
            replace q20 := eq_true q20
            refine start_ (n := 7) (S := fun w' => True) (ds := []) #[false, false, false, false, false, false, false] (w110_) rfl rfl trivial (fun hHeld => ?_)
            generalize wr.drew = w27 at BK360 HB hHeld ⊢
            refine pure_ (i := 0) (N := some 23) (v := ?_) (a' := ?_) (mz_ [1,6]) rfl rfl (w110_) (fun _ _ _ h => h) (Or.inl ⟨by rfl, ?_⟩) ?_ ?_
            rotate_left
            ·intro w'
             go_simp
             with_reducible rfl
            rotate_left
            ·simp only [Act.put, usz_, utz_, uvz_, i64_w, i32_w]
             rfl
            refine pure_ (i := 1) (N := some 24) (v := ?_) (a' := ?_) (mz_ [2,5]) rfl rfl (w110_) (fun _ _ _ h => h) (Or.inl ⟨by rfl, ?_⟩) ?_ ?_
            rotate_left
            ·intro w'
             go_simp
             with_reducible rfl
            rotate_left
            ·simp only [Act.put, usz_, utz_, uvz_, i64_w, i32_w]
             rfl
            refine pure_ (i := 3) (N := some 26) (v := ?_) (a' := ?_) (mz_ [2,1,1,3]) rfl rfl (w110_) (fun _ _ _ h => h) (Or.inl ⟨by rfl, ?_⟩) ?_ ?_
            rotate_left
            ·intro w'
             go_simp
             with_reducible rfl
            rotate_left
            ·simp only [Act.put, usz_, utz_, uvz_, i64_w, i32_w]
             rfl
            refine pure_ (i := 4) (N := some 27) (v := ?_) (a' := ?_) (mz_ [2,1,2,2]) rfl rfl (w110_) (fun _ _ _ h => h) (Or.inl ⟨by rfl, ?_⟩) ?_ ?_
            rotate_left
            ·intro w'
             go_simp
             with_reducible rfl
            rotate_left
            ·simp only [Act.put, usz_, utz_, uvz_, i64_w, i32_w]
             rfl
            refine take_ (i := 2) (N := some 25) (v := ?_) (a' := ?_) (mz_ [5,2]) rfl rfl (w110_) (fun _ _ _ h => h) (Or.inl ⟨by rfl, ?_⟩) hHeld ?_ ?_
            rotate_left
            ·intro w' _
             go_simp
             with_reducible rfl
            rotate_left
            ·simp only [Act.put, usz_, utz_, uvz_, i64_w, i32_w]
             rfl
            refine take_ (i := 5) (N := some 28) (v := ?_) (a' := ?_) (mz_ [6,1]) rfl rfl (w110_) (fun _ _ _ h => h) (Or.inl ⟨by rfl, ?_⟩) hHeld ?_ ?_
            rotate_left
            ·intro w' _
             go_simp
             with_reducible rfl
            rotate_left
            ·simp only [Act.put, usz_, utz_, uvz_, i64_w, i32_w]
             rfl
            refine pure_ (i := 6) (N := some 29) (v := ?_) (a' := ?_) (mz_ [7]) rfl rfl (w110_) (fun _ _ _ h => h) (Or.inl ⟨by rfl, ?_⟩) ?_ ?_
            rotate_left
            ·intro w'
             go_simp
             with_reducible rfl
            rotate_left
            ·simp only [Act.put, usz_, utz_, uvz_, i64_w, i32_w]
             rfl
            refine done_ (w110_) ?_
            try go_wp2
            go_ret
            exact ⟨w61_, w40_⟩
           ·rw [if_neg c26] at H
            exact absurd H (by simp)
          ·rw [if_neg c25] at H
           exact absurd H (by simp)
         ·rw [if_neg c24] at H
          exact absurd H (by simp)
       ·rw [if_neg c19] at H
        exact absurd H (by simp)
      ·rw [if_neg c17] at H
       exact absurd H (by simp)
     ·rw [if_neg c16] at H
      exact absurd H (by simp)
  ·rw [if_neg c10] at H
   have c10b0 : ((t361.size : Int) == (t362.size : Int)) = false := beq_eq_false_iff_ne.mpr c10
   have c10b1 : ((t361.size : Int) != (t362.size : Int)) = true := bne_iff_ne.mpr c10
   have c10b2 : (t361.size == t362.size) = false := by first | simpa using c10 | (simp at c10 ⊢; omega)
   by_cases c28 : t361.size + 1 ≤ 9223372036854775807
   ·rw [if_pos c28] at H
    have c28b0 := eq_true c28
    have c28b1 := decide_eq_true c28
    try have c28b2 : (9223372036854775807 < t361.size + 1) = False := eq_false (Nat.not_lt.2 c28)
    by_cases c29 : (t361 ++ (⟨#[45]⟩ : ByteArray)).size + t362.size ≤ 9223372036854775807
    ·rw [if_pos c29] at H
     have c29b0 := eq_true c29
     have c29b1 := decide_eq_true c29
     try have c29b2 : (9223372036854775807 < (t361 ++ (⟨#[45]⟩ : ByteArray)).size + t362.size) = False := eq_false (Nat.not_lt.2 c29)
     have c29b3 : (9223372036854775807 < t361.size + 1 + t362.size) = False := by (have h_ := c29b2; simp only [ByteArray.size_append] at h_; exact h_)
     obtain rfl := Option.some.inj H
     go_enter Tryz.func178, Tryz.ntmps178
     try go_wp2_with (first | ((with_reducible refine gate_dst (N := 1) rfl ?_); refine box_event ?hg (N := 1) ?hd (cs := #[.int .i64 a0_0, .int .i64 a0_1]) (t := 69) ?hr ?_; (case hd => rfl); (case hg => rfl); (case hr => first | (go_simp; done) | (go_simp; rfl)); intro gb360 hg w30 hbox hb; have BK360 := Az_ (hbox); have GW360 := Az_ ((by rw [hg]; exact (below_size (ubz_ HB.out)) : w.heap.size ≤ gb360)); have GE360 := Az_ ((by rw [hg]; exact (below_size (ubz_ HB.out)) : w.heap.size ≤ gb360)); replace HB := Az_ (btz_ (ubz_ HB.out) hb); clear hb hbox hg))
     have n0_ := Az_ (kdz_ BK360.out)
     have n1_ := Az_ (bdz_ HB.out)
     clear BK360 HB
     have BK360 := n0_
     have HB := n1_
     clear n0_ n1_
     refine start_ (n := 8) (S := fun w' => w'.cell? ⟨gb360, 0, none⟩ = some (.int .i64 a0_0) ∧ w'.cell? ⟨gb360, 1, none⟩ = some (.int .i64 a0_1)) (ds := []) #[false, false, false, false, false, false, false, false] (w110_) rfl rfl ⟨(blk_cell BK360.out 0).trans rfl, (blk_cell BK360.out 1).trans rfl⟩ (fun hHeld => ?_); refine with_tabW spec_ixShort.tab1 spec_ixShort.bits1 (fun HT_ HW_ => ?_)
     generalize w30.drew = w31 at BK360 HB hHeld ⊢
     refine pure_ (i := 0) (N := some 6) (v := ?_) (a' := ?_) (mz_ [1,7]) rfl rfl (any_of HT_.out (w110_)) (fun _ _ _ h => h) (Or.inl ⟨by rfl, ?_⟩) ?_ ?_
     rotate_left
     ·intro w'
      go_simp
      with_reducible rfl
     rotate_left
     ·simp only [Act.put, usz_, utz_, uvz_, i64_w, i32_w]
      rfl
     refine pure_ (i := 3) (N := some 9) (v := ?_) (a' := ?_) (mz_ [1,2,1,4]) rfl rfl (any_of HT_.out (w110_)) (fun _ _ _ h => h) (Or.inl ⟨by rfl, ?_⟩) ?_ ?_
     rotate_left
     ·intro w'
      go_simp
      with_reducible rfl
     rotate_left
     ·simp only [Act.put, usz_, utz_, uvz_, i64_w, i32_w]
      rfl
     refine take_ (i := 1) (N := some 7) (v := ?_) (a' := ?_) (mz_ [2,1,1,4]) rfl rfl (take_ofW HT_.out HW_.out (w110_)) (fun _ _ _ h => h) (Or.inl ⟨by rfl, ?_⟩) hHeld ?_ ?_
     rotate_left
     ·rintro w' ⟨s0, s1⟩
      go_simp
      with_reducible rfl
     rotate_left
     ·simp only [Act.put, usz_, utz_, uvz_, i64_w, i32_w]
      rfl
     refine take_ (i := 4) (N := some 10) (v := ?_) (a' := ?_) (mz_ [2,1,2,3]) rfl rfl (take_ofW HT_.out HW_.out (w110_)) (fun _ _ _ h => h) (Or.inl ⟨by rfl, ?_⟩) hHeld ?_ ?_
     rotate_left
     ·rintro w' ⟨s0, s1⟩
      go_simp
      with_reducible rfl
     rotate_left
     ·simp only [Act.put, usz_, utz_, uvz_, i64_w, i32_w]
      rfl
     refine one_ (i := 2) (N := some 8) (mz_ [5,3]) rfl rfl (one_of HT_.out (w110_)) (by decide) (fun K hK => ?_)
     refine goes_ Tryz.func167 (w110_) rfl #[.int .i64 a0_0] (by rfl) rfl rfl maz_ ?_
     with_reducible refine (spec_l1Num.calls k a0_0 t361 _ A2.out).mono ?_
     rintro e w32 ⟨rfl, hb⟩
     refine ⟨_, rfl, ?_⟩
     have n1_ := Az_ (btz_ (w40_) hb)
     clear HB
     replace BK360 := Az_ (ukbz_ BK360.out hb)
     have HB := n1_
     clear n1_
     clear hb
     refine hK.out _ _ ⟨(blk_cell BK360.out 0).trans rfl, (blk_cell BK360.out 1).trans rfl⟩ (fun hHeld => ?_)
     clear hK K
     refine norm_ (a' := ?_) ?_ ?_
     rotate_left
     ·show Act.put _ (some 8) _ = _
      simp only [Act.put, usz_, utz_, uvz_, i64_w, i32_w]
      rfl
     refine one_ (i := 5) (N := some 11) (mz_ [6,2]) rfl rfl (one_of HT_.out (w110_)) (by decide) (fun K hK => ?_)
     refine goes_ Tryz.func167 (w110_) rfl #[.int .i64 a0_1] (by rfl) rfl rfl maz_ ?_
     with_reducible refine (spec_l1Num.calls k a0_1 t362 _ A3.out).mono ?_
     rintro e w33 ⟨rfl, hb⟩
     refine ⟨_, rfl, ?_⟩
     have n1_ := Az_ (btz_ (w40_) hb)
     clear HB
     replace BK360 := Az_ (ukbz_ BK360.out hb)
     have HB := n1_
     clear n1_
     clear hb
     refine hK.out _ _ ⟨(blk_cell BK360.out 0).trans rfl, (blk_cell BK360.out 1).trans rfl⟩ (fun hHeld => ?_)
     clear hK K
     refine norm_ (a' := ?_) ?_ ?_
     rotate_left
     ·show Act.put _ (some 11) _ = _
      simp only [Act.put, usz_, utz_, uvz_, i64_w, i32_w]
      rfl
     refine pure_ (i := 6) (N := some 3) (v := ?_) (a' := ?_) (mz_ [7,1]) rfl rfl (any_of HT_.out (w110_)) (fun _ _ _ h => h) (Or.inl ⟨by rfl, ?_⟩) ?_ ?_
     rotate_left
     ·intro w'
      go_simp
      with_reducible rfl
     rotate_left
     ·simp only [Act.put, usz_, utz_, uvz_, i64_w, i32_w]
      rfl
     refine pure_ (i := 7) (N := some 4) (v := ?_) (a' := ?_) (mz_ [8]) rfl rfl (any_of HT_.out (w110_)) (fun _ _ _ h => h) (Or.inl ⟨by rfl, ?_⟩) ?_ ?_
     rotate_left
     ·intro w'
      go_simp
      with_reducible rfl
     rotate_left
     ·simp only [Act.put, usz_, utz_, uvz_, i64_w, i32_w]
      rfl
     refine done_ (done_of HT_.out (w110_)) ?_
     have hcz34_0 : w33.cell? ⟨gb360, 0, none⟩ = some (.int .i64 a0_0) := (blk_cell BK360.out 0).trans rfl
     have hcz34_1 : w33.cell? ⟨gb360, 1, none⟩ = some (.int .i64 a0_1) := (blk_cell BK360.out 1).trans rfl
     have hfz34_0 := blk_frozen BK360.out 0
     have hfz34_1 := blk_frozen BK360.out 1
     try go_wp2
     go_ret
     exact ⟨w61_, w40_⟩
    ·rw [if_neg c29] at H
     exact absurd H (by simp)
   ·rw [if_neg c28] at H
    exact absurd H (by simp)

end Go.Proofs.YtppbpefehpbejaaGreatDoor.P
end

section
namespace Go.Proofs.YtppbpefehpbejaaGreatDoor.P
open Go.RowKit Go.Proofs.YtppbpefehpbejaaGreatDoorW.PrintWords Go.Proofs.YtppbpefehpbejaaGreatDoorW.PrintLast Go.Proofs.YtppbpefehpbejaaGreatDoorW.PrintMore
attribute [local go_sem] max2_int min2_int max_two min_two max_three min_three max_four min_four   -- for this text's walks alone
set_option linter.unusedVariables false
set_option linter.unusedSimpArgs false

def spec_ixText.l0 : Nat → ByteArray → List (S69) → Int → Int → Option (ByteArray)
 | 0, _, _, _, _ => none
 | k + 1, x3, x6, x7, x8 => if x8 < x7 then (if 0 ≤ x8 then (if x8 < (x6.length : Int) then (if x8 > 0 then (if x3.size + 1 ≤ 9223372036854775807 then ((spec_ixShort.f k ((rd_T69 x6 x8).f0) ((rd_T69 x6 x8).f1)).bind fun t365 => (if (x3 ++ (⟨#[44]⟩ : ByteArray)).size + t365.size ≤ 9223372036854775807 then (spec_ixText.l0 k ((x3 ++ (⟨#[44]⟩ : ByteArray)) ++ t365) x6 x7 (wrap64 (x8 + 1))) else (none))) else (none)) else ((spec_ixShort.f k ((rd_T69 x6 x8).f0) ((rd_T69 x6 x8).f1)).bind fun t366 => (if x3.size + t366.size ≤ 9223372036854775807 then (spec_ixText.l0 k (x3 ++ t366) x6 x7 (wrap64 (x8 + 1))) else (none)))) else (none)) else (none)) else (some x3)
def spec_ixText.f (k : Nat) (l0 : List (S69)) : Option (ByteArray) := spec_ixText.l0 k (⟨#[]⟩ : ByteArray) l0 (l0.length : Int) 0
set_option maxHeartbeats 8000000 in
set_option maxRecDepth 100000 in
theorem spec_ixText.calls (k : Nat) (A0 : Option Addr) (c0 : Nat) (l0 : List (S69)) (r : ByteArray) (w : World) (hr0 : Kd.C k69 w A0 l0.length l0) (hc0 : l0.length ≤ c0) (h : spec_ixText.f k l0 = some r) :
  Calls Tryz.prog 138 #[.slice A0 l0.length c0] w fun e w' => e = .returned (.string r) ∧ Below w.heap.size w w' := by
 have hu69 := Tryz.underlying69
 have HR0 := Az_ hr0
 have HC0 := Az_ hc0
 clear hr0 hc0
 have HB := Az_ (Below.refl w.heap.size w)
 have H : (spec_ixText.l0 k (⟨#[]⟩ : ByteArray) l0 (l0.length : Int) 0) = some r := h
 clear h
 have H' := Az_ H
 clear H
 go_enter Tryz.func138, Tryz.ntmps138
 go_wp2
 go_loopg [3, 8] k (fun kq v3 v8 w' => ∃ (x3_1 : ByteArray) (x8_1 : Int), v3 = .string x3_1 ∧ v8 = .int .i64 x8_1 ∧ Aside0 (spec_ixText.l0 kq x3_1 l0 (l0.length : Int) x8_1 = some r) ∧ Aside0 (kq ≤ k) ∧ Aside0 (Below w.heap.size w w'))
 case atStart => exact ⟨((⟨#[]⟩ : ByteArray)), (0), qaz_, qaz_, H', ⟨Nat.le_refl _⟩, ⟨w109_⟩⟩
 case round =>
  clear H'
  obtain ⟨x3_1, x8_1, rfl, rfl, HA, HK1, HB⟩ := hrel
  cases gk with
  | zero => exact absurd HA.out (by simp [spec_ixText.l0])
  | succ k1 =>
   have H := HA.out
   clear HA
   simp only [spec_ixText.l0] at H
   by_cases c2 : x8_1 < (l0.length : Int)
   ·rw [if_pos c2] at H
    have c2b0 := decide_eq_true c2
    clear c2
    by_cases c3 : 0 ≤ x8_1
    ·rw [if_pos c3] at H
     have c3b0 := decide_eq_true c3
     clear c3
     by_cases c4 : x8_1 < (l0.length : Int)
     ·rw [if_pos c4] at H
      have c4b0 := decide_eq_true c4
      clear c4
      by_cases c5 : x8_1 > 0
      ·rw [if_pos c5] at H
       have c5b0 := decide_eq_true c5
       clear c5
       by_cases c6 : x3_1.size + 1 ≤ 9223372036854775807
       ·rw [if_pos c6] at H
        have c6b0 := eq_true c6
        have c6b1 := decide_eq_true c6
        try have c6b2 : (9223372036854775807 < x3_1.size + 1) = False := eq_false (Nat.not_lt.2 c6)
        replace H := bqz_ H; obtain ⟨t365, A7, H⟩ := H
        replace H : (if (x3_1 ++ (⟨#[44]⟩ : ByteArray)).size + t365.size ≤ 9223372036854775807 then (spec_ixText.l0 k1 ((x3_1 ++ (⟨#[44]⟩ : ByteArray)) ++ t365) l0 (l0.length : Int) (wrap64 (x8_1 + 1))) else (none)) = some r := H
        by_cases c8 : (x3_1 ++ (⟨#[44]⟩ : ByteArray)).size + t365.size ≤ 9223372036854775807
        ·rw [if_pos c8] at H
         have c8b0 := eq_true c8
         have c8b1 := decide_eq_true c8
         try have c8b2 : (9223372036854775807 < (x3_1 ++ (⟨#[44]⟩ : ByteArray)).size + t365.size) = False := eq_false (Nat.not_lt.2 c8)
         have c8b3 : (9223372036854775807 < x3_1.size + 1 + t365.size) = False := by (have h_ := c8b2; simp only [ByteArray.size_append] at h_; exact h_)
         have H' := Az_ H
         clear H
         have p363 : 0 ≤ (x8_1 : Int) := of_decide_eq_true asz_
         have q363 : x8_1 < (l0.length : Int) := of_decide_eq_true asz_
         obtain ⟨ad363, e363, hx363_0, hx363_1⟩ := at_T69 HR0.out x8_1 p363 q363
         cases e363
         replace hx363_0 := (HB.out.cell (World.block_lt_of_cell? w _ hx363_0)).trans hx363_0
         replace hx363_1 := (HB.out.cell (World.block_lt_of_cell? w _ hx363_1)).trans hx363_1
         replace p363 := eq_true p363
         replace q363 := eq_true q363
         go_wp2_with (first | ((with_reducible refine gate_dst (N := 5) rfl ?_); refine box_event ?hg (N := 5) ?hd (cs := #[.int .i64 0, .int .i64 0]) (t := 69) ?hr ?_; (case hd => rfl); (case hg => rfl); (case hr => first | (go_simp; done) | (go_simp; rfl)); intro gb364 hg w9 hbox hb; have BK364 := Az_ (hbox); have GW364 := Az_ ((by rw [hg]; exact (below_size (ubz_ HB.out)) : w.heap.size ≤ gb364)); have GE364 := Az_ ((by rw [hg]; exact (below_size (ubz_ HB.out)) : w.heap.size ≤ gb364)); replace HB := Az_ (btz_ (ubz_ HB.out) hb); clear hb hbox hg; have hcz10_0 : w9.cell? ⟨gb364, 0, none⟩ = some (.int .i64 0) := (blk_cell BK364.out 0).trans rfl; have hcz10_1 : w9.cell? ⟨gb364, 1, none⟩ = some (.int .i64 0) := (blk_cell BK364.out 1).trans rfl; have hfz10_0 := blk_frozen BK364.out 0; have hfz10_1 := blk_frozen BK364.out 1) | ((with_reducible refine gate_callee (f := 178) rfl ?_); refine goesL_ (some 19) rfl rfl Tryz.func178 (w110_) rfl #[.agg #[.int .i64 ((rd_T69 l0 x8_1).f0), .int .i64 ((rd_T69 l0 x8_1).f1)]] rfl maz_ ?_; (with_reducible refine (spec_ixShort.calls k1 ((rd_T69 l0 x8_1).f0) ((rd_T69 l0 x8_1).f1) t365 _ A7.out).mono ?_); rintro e w11 ⟨rfl, hb⟩; refine ⟨_, rfl, ?_⟩; replace BK364 := Az_ (kbz_ (g := gb364) (o := .cells #[.int .i64 ((rd_T69 l0 x8_1).f0), .int .i64 ((rd_T69 l0 x8_1).f1)] 69 (0, 0)) (w13_) hb); replace HB := Az_ (btz_ (w40_) hb); (try clear hb)))
         go_roundg k1
         case measure => have := HK1.out; omega
         case rel => exact ⟨((x3_1 ++ (⟨#[44]⟩ : ByteArray)) ++ t365), (wrap64 (x8_1 + 1)), qaz_, qaz_, H', ⟨w83_⟩, ⟨w40_⟩⟩
        ·rw [if_neg c8] at H
         exact absurd H (by simp)
       ·rw [if_neg c6] at H
        exact absurd H (by simp)
      ·rw [if_neg c5] at H
       have c5b0 := decide_eq_false c5
       clear c5
       replace H := bqz_ H; obtain ⟨t366, A12, H⟩ := H
       replace H : (if x3_1.size + t366.size ≤ 9223372036854775807 then (spec_ixText.l0 k1 (x3_1 ++ t366) l0 (l0.length : Int) (wrap64 (x8_1 + 1))) else (none)) = some r := H
       by_cases c13 : x3_1.size + t366.size ≤ 9223372036854775807
       ·rw [if_pos c13] at H
        have c13b0 := eq_true c13
        have c13b1 := decide_eq_true c13
        try have c13b2 : (9223372036854775807 < x3_1.size + t366.size) = False := eq_false (Nat.not_lt.2 c13)
        have H' := Az_ H
        clear H
        have p363 : 0 ≤ (x8_1 : Int) := of_decide_eq_true asz_
        have q363 : x8_1 < (l0.length : Int) := of_decide_eq_true asz_
        obtain ⟨ad363, e363, hx363_0, hx363_1⟩ := at_T69 HR0.out x8_1 p363 q363
        cases e363
        replace hx363_0 := (HB.out.cell (World.block_lt_of_cell? w _ hx363_0)).trans hx363_0
        replace hx363_1 := (HB.out.cell (World.block_lt_of_cell? w _ hx363_1)).trans hx363_1
        replace p363 := eq_true p363
        replace q363 := eq_true q363
        go_wp2_with (first | ((with_reducible refine gate_dst (N := 5) rfl ?_); refine box_event ?hg (N := 5) ?hd (cs := #[.int .i64 0, .int .i64 0]) (t := 69) ?hr ?_; (case hd => rfl); (case hg => rfl); (case hr => first | (go_simp; done) | (go_simp; rfl)); intro gb364 hg w14 hbox hb; have BK364 := Az_ (hbox); have GW364 := Az_ ((by rw [hg]; exact (below_size (ubz_ HB.out)) : w.heap.size ≤ gb364)); have GE364 := Az_ ((by rw [hg]; exact (below_size (ubz_ HB.out)) : w.heap.size ≤ gb364)); replace HB := Az_ (btz_ (ubz_ HB.out) hb); clear hb hbox hg; have hcz15_0 : w14.cell? ⟨gb364, 0, none⟩ = some (.int .i64 0) := (blk_cell BK364.out 0).trans rfl; have hcz15_1 : w14.cell? ⟨gb364, 1, none⟩ = some (.int .i64 0) := (blk_cell BK364.out 1).trans rfl; have hfz15_0 := blk_frozen BK364.out 0; have hfz15_1 := blk_frozen BK364.out 1) | ((with_reducible refine gate_callee (f := 178) rfl ?_); refine goesL_ (some 19) rfl rfl Tryz.func178 (w110_) rfl #[.agg #[.int .i64 ((rd_T69 l0 x8_1).f0), .int .i64 ((rd_T69 l0 x8_1).f1)]] rfl maz_ ?_; (with_reducible refine (spec_ixShort.calls k1 ((rd_T69 l0 x8_1).f0) ((rd_T69 l0 x8_1).f1) t366 _ A12.out).mono ?_); rintro e w16 ⟨rfl, hb⟩; refine ⟨_, rfl, ?_⟩; replace BK364 := Az_ (kbz_ (g := gb364) (o := .cells #[.int .i64 ((rd_T69 l0 x8_1).f0), .int .i64 ((rd_T69 l0 x8_1).f1)] 69 (0, 0)) (w13_) hb); replace HB := Az_ (btz_ (w40_) hb); (try clear hb)))
        go_roundg k1
        case measure => have := HK1.out; omega
        case rel => exact ⟨(x3_1 ++ t366), (wrap64 (x8_1 + 1)), qaz_, qaz_, H', ⟨w83_⟩, ⟨w40_⟩⟩
       ·rw [if_neg c13] at H
        exact absurd H (by simp)
     ·rw [if_neg c4] at H
      exact absurd H (by simp)
    ·rw [if_neg c3] at H
     exact absurd H (by simp)
   ·rw [if_neg c2] at H
    have c2b0 := decide_eq_false c2
    clear c2
    obtain rfl := Option.some.inj H
    go_wp2
    go_ret
    exact ⟨w61_, w109_⟩

def spec_RangesText.f (k : Nat) (l0 : List (S69)) : Option (ByteArray × Bool) := (spec_ixGood.f k l0).bind fun t367 => (if t367 = true then ((spec_ixText.f k l0).bind fun t368 => (some (t368, true))) else (some ((⟨#[]⟩ : ByteArray), false)))
set_option maxHeartbeats 8000000 in
set_option maxRecDepth 100000 in
theorem spec_RangesText.calls (k : Nat) (A0 : Option Addr) (c0 : Nat) (l0 : List (S69)) (r1 : ByteArray) (r2 : Bool) (w : World) (hr0 : Kd.C k69 w A0 l0.length l0) (hc0 : l0.length ≤ c0) (h : spec_RangesText.f k l0 = some (r1, r2)) :
  Calls Tryz.prog 55 #[.slice A0 l0.length c0] w fun e w' => e = .returned (.tuple #[.string r1, .bool r2]) ∧ Below w.heap.size w w' := by
 have HR0 := Az_ hr0
 have HC0 := Az_ hc0
 clear hr0 hc0
 have HB := Az_ (Below.refl w.heap.size w)
 have H : ((spec_ixGood.f k l0).bind fun t367 => (if t367 = true then ((spec_ixText.f k l0).bind fun t368 => (some (t368, true))) else (some ((⟨#[]⟩ : ByteArray), false)))) = some (r1, r2) := h
 clear h
 replace H := bqz_ H; obtain ⟨t367, A2, H⟩ := H
 replace H : (if t367 = true then ((spec_ixText.f k l0).bind fun t368 => (some (t368, true))) else (some ((⟨#[]⟩ : ByteArray), false))) = some (r1, r2) := H
 by_cases c3 : t367 = true
 ·subst c3
  rw [if_pos rfl] at H
  replace H := bqz_ H; obtain ⟨t368, A4, H⟩ := H
  replace H : (some (t368, true)) = some (r1, r2) := H
  simp only [Option.some.injEq, Prod.mk.injEq] at H
  obtain ⟨rfl, rfl⟩ := H
  go_enter Tryz.func55, Tryz.ntmps55
  go_wp2_with (first | ((with_reducible refine gate_callee (f := 136) rfl ?_); refine goesL_ (some 5) rfl rfl Tryz.func136 (w110_) rfl #[.slice A0 l0.length c0] rfl maz_ ?_; (with_reducible refine (spec_ixGood.calls k _ _ l0 true _ ?side1 ?side2 A2.out).mono ?_); (case side1 => exact ucz_ (HR0.out)); (case side2 => exact HC0.out); rintro e w5 ⟨rfl, hb⟩; refine ⟨_, rfl, ?_⟩; replace HB := Az_ (btz_ (ubz_ HB.out) hb); (try clear hb)) | ((with_reducible refine gate_callee (f := 138) rfl ?_); refine goesL_ (some 8) rfl rfl Tryz.func138 (w110_) rfl #[.slice A0 l0.length c0] rfl maz_ ?_; (with_reducible refine (spec_ixText.calls k _ _ l0 t368 _ ?side1 ?side2 A4.out).mono ?_); (case side1 => exact ucz_ ((Kd.C_below HR0.out HB.out))); (case side2 => exact HC0.out); rintro e w6 ⟨rfl, hb⟩; refine ⟨_, rfl, ?_⟩; replace HB := Az_ (btz_ (ubz_ HB.out) hb); (try clear hb)))
  go_ret2
  exact ⟨w61_, w109_⟩
 ·replace c3 := Bool.eq_false_iff.mpr c3
  subst c3
  rw [if_neg nfz_] at H
  simp only [Option.some.injEq, Prod.mk.injEq] at H
  obtain ⟨rfl, rfl⟩ := H
  go_enter Tryz.func55, Tryz.ntmps55
  go_wp2_with (first | ((with_reducible refine gate_callee (f := 136) rfl ?_); refine goesL_ (some 5) rfl rfl Tryz.func136 (w110_) rfl #[.slice A0 l0.length c0] rfl maz_ ?_; (with_reducible refine (spec_ixGood.calls k _ _ l0 false _ ?side1 ?side2 A2.out).mono ?_); (case side1 => exact ucz_ (HR0.out)); (case side2 => exact HC0.out); rintro e w7 ⟨rfl, hb⟩; refine ⟨_, rfl, ?_⟩; replace HB := Az_ (btz_ (ubz_ HB.out) hb); (try clear hb)))
  go_ret2
  exact ⟨w61_, w109_⟩

def spec_ixCount.l0 : Nat → Int → List (S69) → Int → Int → Option (Int)
 | 0, _, _, _, _ => none
 | k + 1, x3, x6, x7, x8 => if x8 < x7 then (if 0 ≤ x8 then (if x8 < (x6.length : Int) then (spec_ixCount.l0 k (wrap64 (x3 + (wrap64 ((wrap64 (((rd_T69 x6 x8).f1) - ((rd_T69 x6 x8).f0))) + 1)))) x6 x7 (wrap64 (x8 + 1))) else (none)) else (none)) else (some x3)
def spec_ixCount.f (k : Nat) (l0 : List (S69)) : Option (Int) := spec_ixCount.l0 k 0 l0 (l0.length : Int) 0
set_option maxHeartbeats 8000000 in
set_option maxRecDepth 100000 in
theorem spec_ixCount.calls (k : Nat) (A0 : Option Addr) (c0 : Nat) (l0 : List (S69)) (r : Int) (w : World) (hr0 : Kd.C k69 w A0 l0.length l0) (hc0 : l0.length ≤ c0) (h : spec_ixCount.f k l0 = some r) :
  Calls Tryz.prog 139 #[.slice A0 l0.length c0] w fun e w' => e = .returned (.int .i64 r) ∧ Below w.heap.size w w' := by
 have hu69 := Tryz.underlying69
 have HR0 := Az_ hr0
 have HC0 := Az_ hc0
 clear hr0 hc0
 have HB := Az_ (Below.refl w.heap.size w)
 have H : (spec_ixCount.l0 k 0 l0 (l0.length : Int) 0) = some r := h
 clear h
 have H' := Az_ H
 clear H
 go_enter Tryz.func139, Tryz.ntmps139
 go_wp2
 go_loopg [3, 8] k (fun kq v3 v8 w' => ∃ (x3_1 : Int) (x8_1 : Int), v3 = .int .i64 x3_1 ∧ v8 = .int .i64 x8_1 ∧ Aside0 (spec_ixCount.l0 kq x3_1 l0 (l0.length : Int) x8_1 = some r) ∧ Aside0 (kq ≤ k) ∧ Aside0 (Below w.heap.size w w'))
 case atStart => exact ⟨(0), (0), qaz_, qaz_, H', ⟨Nat.le_refl _⟩, ⟨w109_⟩⟩
 case round =>
  clear H'
  obtain ⟨x3_1, x8_1, rfl, rfl, HA, HK1, HB⟩ := hrel
  cases gk with
  | zero => exact absurd HA.out (by simp [spec_ixCount.l0])
  | succ k1 =>
   have H := HA.out
   clear HA
   simp only [spec_ixCount.l0] at H
   by_cases c2 : x8_1 < (l0.length : Int)
   ·rw [if_pos c2] at H
    have c2b0 := decide_eq_true c2
    clear c2
    by_cases c3 : 0 ≤ x8_1
    ·rw [if_pos c3] at H
     have c3b0 := decide_eq_true c3
     clear c3
     by_cases c4 : x8_1 < (l0.length : Int)
     ·rw [if_pos c4] at H
      have c4b0 := decide_eq_true c4
      clear c4
      have H' := Az_ H
      clear H
      have p369 : 0 ≤ (x8_1 : Int) := of_decide_eq_true asz_
      have q369 : x8_1 < (l0.length : Int) := of_decide_eq_true asz_
      obtain ⟨ad369, e369, hx369_0, hx369_1⟩ := at_T69 HR0.out x8_1 p369 q369
      cases e369
      replace hx369_0 := (HB.out.cell (World.block_lt_of_cell? w _ hx369_0)).trans hx369_0
      replace hx369_1 := (HB.out.cell (World.block_lt_of_cell? w _ hx369_1)).trans hx369_1
      replace p369 := eq_true p369
      replace q369 := eq_true q369
      go_wp2_with (first | ((with_reducible refine gate_dst (N := 5) rfl ?_); refine box_event ?hg (N := 5) ?hd (cs := #[.int .i64 0, .int .i64 0]) (t := 69) ?hr ?_; (case hd => rfl); (case hg => rfl); (case hr => first | (go_simp; done) | (go_simp; rfl)); intro gb370 hg w5 hbox hb; have BK370 := Az_ (hbox); have GW370 := Az_ ((by rw [hg]; exact (below_size (ubz_ HB.out)) : w.heap.size ≤ gb370)); have GE370 := Az_ ((by rw [hg]; exact (below_size (ubz_ HB.out)) : w.heap.size ≤ gb370)); replace HB := Az_ (btz_ (ubz_ HB.out) hb); clear hb hbox hg; have hcz6_0 : w5.cell? ⟨gb370, 0, none⟩ = some (.int .i64 0) := (blk_cell BK370.out 0).trans rfl; have hcz6_1 : w5.cell? ⟨gb370, 1, none⟩ = some (.int .i64 0) := (blk_cell BK370.out 1).trans rfl; have hfz6_0 := blk_frozen BK370.out 0; have hfz6_1 := blk_frozen BK370.out 1))
      go_roundg k1
      case measure => have := HK1.out; omega
      case rel => exact ⟨(wrap64 (x3_1 + (wrap64 ((wrap64 (((rd_T69 l0 x8_1).f1) - ((rd_T69 l0 x8_1).f0))) + 1)))), (wrap64 (x8_1 + 1)), qaz_, qaz_, H', ⟨w83_⟩, ⟨w40_⟩⟩
     ·rw [if_neg c4] at H
      exact absurd H (by simp)
    ·rw [if_neg c3] at H
     exact absurd H (by simp)
   ·rw [if_neg c2] at H
    have c2b0 := decide_eq_false c2
    clear c2
    obtain rfl := Option.some.inj H
    go_wp2
    go_ret
    exact ⟨w61_, w109_⟩

def spec_CountIndexed.f (k : Nat) (l0 : List (S69)) : Option (Int × Bool) := (spec_ixGood.f k l0).bind fun t371 => (if t371 = true then ((spec_ixCount.f k l0).bind fun t372 => (some (t372, true))) else (some (0, false)))
set_option maxHeartbeats 8000000 in
set_option maxRecDepth 100000 in
theorem spec_CountIndexed.calls (k : Nat) (A0 : Option Addr) (c0 : Nat) (l0 : List (S69)) (r1 : Int) (r2 : Bool) (w : World) (hr0 : Kd.C k69 w A0 l0.length l0) (hc0 : l0.length ≤ c0) (h : spec_CountIndexed.f k l0 = some (r1, r2)) :
  Calls Tryz.prog 56 #[.slice A0 l0.length c0] w fun e w' => e = .returned (.tuple #[.int .i64 r1, .bool r2]) ∧ Below w.heap.size w w' := by
 have HR0 := Az_ hr0
 have HC0 := Az_ hc0
 clear hr0 hc0
 have HB := Az_ (Below.refl w.heap.size w)
 have H : ((spec_ixGood.f k l0).bind fun t371 => (if t371 = true then ((spec_ixCount.f k l0).bind fun t372 => (some (t372, true))) else (some (0, false)))) = some (r1, r2) := h
 clear h
 replace H := bqz_ H; obtain ⟨t371, A2, H⟩ := H
 replace H : (if t371 = true then ((spec_ixCount.f k l0).bind fun t372 => (some (t372, true))) else (some (0, false))) = some (r1, r2) := H
 by_cases c3 : t371 = true
 ·subst c3
  rw [if_pos rfl] at H
  replace H := bqz_ H; obtain ⟨t372, A4, H⟩ := H
  replace H : (some (t372, true)) = some (r1, r2) := H
  simp only [Option.some.injEq, Prod.mk.injEq] at H
  obtain ⟨rfl, rfl⟩ := H
  go_enter Tryz.func56, Tryz.ntmps56
  go_wp2_with (first | ((with_reducible refine gate_callee (f := 136) rfl ?_); refine goesL_ (some 5) rfl rfl Tryz.func136 (w110_) rfl #[.slice A0 l0.length c0] rfl maz_ ?_; (with_reducible refine (spec_ixGood.calls k _ _ l0 true _ ?side1 ?side2 A2.out).mono ?_); (case side1 => exact ucz_ (HR0.out)); (case side2 => exact HC0.out); rintro e w5 ⟨rfl, hb⟩; refine ⟨_, rfl, ?_⟩; replace HB := Az_ (btz_ (ubz_ HB.out) hb); (try clear hb)) | ((with_reducible refine gate_callee (f := 139) rfl ?_); refine goesL_ (some 8) rfl rfl Tryz.func139 (w110_) rfl #[.slice A0 l0.length c0] rfl maz_ ?_; (with_reducible refine (spec_ixCount.calls k _ _ l0 t372 _ ?side1 ?side2 A4.out).mono ?_); (case side1 => exact ucz_ ((Kd.C_below HR0.out HB.out))); (case side2 => exact HC0.out); rintro e w6 ⟨rfl, hb⟩; refine ⟨_, rfl, ?_⟩; replace HB := Az_ (btz_ (ubz_ HB.out) hb); (try clear hb)))
  go_ret2
  exact ⟨w61_, w109_⟩
 ·replace c3 := Bool.eq_false_iff.mpr c3
  subst c3
  rw [if_neg nfz_] at H
  simp only [Option.some.injEq, Prod.mk.injEq] at H
  obtain ⟨rfl, rfl⟩ := H
  go_enter Tryz.func56, Tryz.ntmps56
  go_wp2_with (first | ((with_reducible refine gate_callee (f := 136) rfl ?_); refine goesL_ (some 5) rfl rfl Tryz.func136 (w110_) rfl #[.slice A0 l0.length c0] rfl maz_ ?_; (with_reducible refine (spec_ixGood.calls k _ _ l0 false _ ?side1 ?side2 A2.out).mono ?_); (case side1 => exact ucz_ (HR0.out)); (case side2 => exact HC0.out); rintro e w7 ⟨rfl, hb⟩; refine ⟨_, rfl, ?_⟩; replace HB := Az_ (btz_ (ubz_ HB.out) hb); (try clear hb)))
  go_ret2
  exact ⟨w61_, w109_⟩

end Go.Proofs.YtppbpefehpbejaaGreatDoor.P
end
