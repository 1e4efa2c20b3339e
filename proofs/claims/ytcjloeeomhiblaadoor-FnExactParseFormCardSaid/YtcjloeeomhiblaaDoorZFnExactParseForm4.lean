/- For every text the law FnExactParseForm answers true. No condition beyond what a reading tells.
This file (part 4 of 6) holds what the proof needs: plain functions with rounds and contracts written by programs of this work over the translation, and the lemmas. -/
import Derived.Shelf.Strings.Builder1
import Derived.Shelf.Strings.Builder2
import Derived.Shelf.Strings.OnBuilder
import Derived.Shelf.Utf8.RuneCount
import Derived.Shelf.Strconv.Atoi
import Derived.Shelf.Strconv.Itoa0
import Derived.Shelf.Strconv.Itoa1
import Derived.Shelf.LaysM
import Derived.Shelf.Strconv.Itoa2
import Derived.Shelf.Strconv.Itoa3
import Derived.Shelf.Strconv.AtoiErrFast
import Derived.Shelf.Strconv.ParseIntEmpty
import Derived.Shelf.Strconv.AtoiFail
import Derived.Shelf.Strconv.Clone
import Derived.Shelf.Strconv.SyntaxError
import Derived.Shelf.LaysC
import Derived.Shelf.Strconv.ToError
import Derived.Shelf.Strconv.AtoiErr
import Derived.Shelf.Strconv.Lower
import Derived.Shelf.Strconv.ParseUint10
import Derived.Shelf.Strconv.ParseUint10Empty
import Derived.Shelf.Strconv.ParseUint10Any
import Derived.Shelf.Strconv.ParseInt10
import Derived.Shelf.Strconv.AtoiLong
import Derived.Shelf.Strconv.AtoiInnerAll
import Derived.Shelf.Strconv.RangeError
import Derived.Shelf.Strconv.ToErrorRange
import Derived.Shelf.Strconv.AtoiAll
import Derived.Shelf.Strconv.ErrVarAll
import Derived.Shelf.Strings.Search1
import Derived.Shelf.Strings.Search2
import Derived.Shelf.Strings.Search3
import Derived.Shelf.Strings.Count
import Derived.Shelf.Strings.Shaped
import Derived.Shelf.Strings.Split
import Derived.Shelf.Strings.SplitShaped
import Derived.Shelf.Unicode.Decode
import Derived.Shelf.Strings.RuneCount
import Derived.Shelf.Strings.Explode
import Derived.Shelf.Unicode.DecodeSlow
import Derived.Shelf.Unicode.DecodeAny
import Derived.Test.YtcjloeeomhiblaaDoorProg
import Derived.Test.YtcjloeeomhiblaaDoorZFnExactParseForm1
import Derived.IntWalk
import Derived.Test.YtcjloeeomhiblaaDoorZFnExactParseForm2
import Derived.Lib.SmallJoins
import Derived.Lib.SplitLaws
import Derived.Lib.AppendIntMem
import Derived.Lib.AtoiErrMem
import Derived.Lib.AtoiAllCases
import Derived.Lib.Strings
import Derived.Shelf.Abstract
import Derived.Test.YtcjloeeomhiblaaDoorZFnExactParseForm3
namespace Go.Proofs
open Go.Shelf
def Tryd.lays156_ren : Go.Shelf.Ren := ⟨fun | 156 => 44 | 165 => 54 | 166 => 55 | 169 => 56 | 240 => 70 | 241 => 71 | 276 => 81 | 277 => 82 | n => n, fun | 31 => 28 | 9 => 9 | 3 => 3 | 4 => 4 | 0 => 0 | 20 => 20 | 72 => 69 | 76 => 57 | 70 => 67 | 37 => 49 | 75 => 56 | 127 => 83 | 164 => 103 | 5 => 5 | 80 => 71 | n => n, fun | n => n⟩
theorem Tryd.lays156 : Go.Proofs.Lays.n156 Tryd.prog Tryd.lays156_ren := {
  mixed := by kernel_rfl
  f156 := Tryd.func44.trans (congrArg some (by kernel_rfl))
  f165 := Tryd.func54.trans (congrArg some (by kernel_rfl))
  f166 := Tryd.func55.trans (congrArg some (by kernel_rfl))
  f169 := Tryd.func56.trans (congrArg some (by kernel_rfl))
  f240 := Tryd.func70.trans (congrArg some (by kernel_rfl))
  f241 := Tryd.func71.trans (congrArg some (by kernel_rfl))
  f276 := Tryd.func81.trans (congrArg some (by kernel_rfl))
  f277 := Tryd.func82.trans (congrArg some (by kernel_rfl))
  t0 := Tryd.underlying0
  a0 := Tryd.isAgg0
  z0 := Tryd.sizeOf0
  v0 := Tryd.zeroValue0
  t3 := Tryd.underlying3
  a3 := Tryd.isAgg3
  z3 := Tryd.sizeOf3
  v3 := Tryd.zeroValue3
  t4 := Tryd.underlying4
  a4 := Tryd.isAgg4
  z4 := Tryd.sizeOf4
  v4 := Tryd.zeroValue4
  t9 := Tryd.underlying9
  a9 := Tryd.isAgg9
  z9 := Tryd.sizeOf9
  v9 := Tryd.zeroValue9
  t20 := Tryd.underlying20
  a20 := Tryd.isAgg20
  z20 := Tryd.sizeOf20
  v20 := Tryd.zeroValue20
  t31 := Tryd.underlying28
  a31 := Tryd.isAgg28
  z31 := Tryd.sizeOf28
  v31 := Tryd.zeroValue28
  t37 := Tryd.underlying49
  a37 := Tryd.isAgg49
  z37 := Tryd.sizeOf49
  v37 := Tryd.zeroValue49
  t70 := Tryd.underlying67
  a70 := Tryd.isAgg67
  z70 := Tryd.sizeOf67
  v70 := Tryd.zeroValue67
  t72 := Tryd.underlying69
  a72 := Tryd.isAgg69
  z72 := Tryd.sizeOf69
  v72 := Tryd.zeroValue69
  t75 := Tryd.underlying56
  a75 := Tryd.isAgg56
  z75 := Tryd.sizeOf56
  v75 := Tryd.zeroValue56
  t76 := Tryd.underlying57
  a76 := Tryd.isAgg57
  z76 := Tryd.sizeOf57
  v76 := Tryd.zeroValue57
  t127 := Tryd.underlying83
  a127 := Tryd.isAgg83
  z127 := Tryd.sizeOf83
  v127 := Tryd.zeroValue83
  t164 := Tryd.underlying103
  a164 := Tryd.isAgg103
  z164 := Tryd.sizeOf103
  v164 := Tryd.zeroValue103 }
theorem Tryd.Builder_Extra_156 : Builder.Extra Tryd.prog Tryd.lays156_ren := {
  sizeBuilder := by kernel_rfl
  liesBuilder := by kernel_rfl
  t5 := Tryd.underlying5
  a5 := Tryd.isAgg5
  z5 := Tryd.sizeOf5
  v5 := Tryd.zeroValue5
  infoByte := by kernel_rfl
  cellsByte := by kernel_rfl
  sizeByte := by kernel_rfl
  neB5 := by decide }
open Go.RowKit in
/-- No element: the empty string; the world is as it was. (Whatever the slice's address and capacity: a nil slice too.) (LAID: no walk: one application.) -/
theorem Tryd.strings_Join_none (a : Option Addr) (c : Nat) (sep : ByteArray) (w : World) :
    Calls Tryd.prog 44 #[.slice a 0 c, .string sep] w fun e w' => e = .returned (.string ⟨#[]⟩) ∧ w' = w := Any.strings_Join_none Tryd.lays156 Tryd.Builder_Extra_156 a c sep w
open Go.RowKit in
/-- strings.Join: "Join concatenates the elements of its first argument to create a single string. The separator string sep is placed between elements in the resulting string.": HOWEVER MANY ELEMENTS. Below the heap's end the world is as it was. (LAID: no walk: one application.) -/
theorem Tryd.strings_Join (bk o c : Nat) (xs : List ByteArray) (sep : ByteArray) (w : World) (hcells : ∀ (j : Nat) x, xs[j]? = some x → w.cell? ⟨bk, o + j, none⟩ = some (.string x)) (hbk : bk < w.heap.size) (hN : xs.length ≤ 140737488355328) (hcap : xs.length ≤ c) (hlen : (Lib.join (xs.map (·.data.toList)) sep.data.toList).length ≤ 140737488355328) :
    Calls Tryd.prog 44 #[.slice (some ⟨bk, o, none⟩) xs.length c, .string sep] w fun e w' => e = .returned (.string ⟨(Lib.join (xs.map (·.data.toList)) sep.data.toList).toArray⟩) ∧ Below w.heap.size w w' := Any.strings_Join Tryd.lays156 Tryd.Builder_Extra_156 bk o c xs sep w hcells hbk hN hcap hlen
def Tryd.laysM171_ren : Go.Shelf.Ren := ⟨fun | 171 => 41 | 243 => 51 | 246 => 67 | 283 => 77 | 284 => 78 | 285 => 79 | 286 => 80 | 129 => 86 | 317 => 85 | 318 => 87 | 319 => 88 | 320 => 89 | 337 => 90 | 338 => 91 | n => n, fun | 3 => 3 | 9 => 9 | 2 => 2 | 4 => 4 | 171 => 98 | 0 => 0 | 53 => 91 | 37 => 49 | 5 => 5 | 173 => 101 | 212 => 111 | 51 => 88 | 20 => 20 | 213 => 112 | 46 => 73 | 232 => 116 | 233 => 117 | n => n, fun | 17 => 5 | 18 => 6 | 19 => 7 | n => n⟩
theorem Tryd.laysM171 : Go.Proofs.LaysM.n171 Tryd.prog Tryd.laysM171_ren := {
  mixed := by kernel_rfl
  f129 := Tryd.func86.trans (congrArg some (by kernel_rfl))
  f171 := Tryd.func41.trans (congrArg some (by kernel_rfl))
  f243 := Tryd.func51.trans (congrArg some (by kernel_rfl))
  f246 := Tryd.func67.trans (congrArg some (by kernel_rfl))
  f283 := Tryd.func77.trans (congrArg some (by kernel_rfl))
  f284 := Tryd.func78.trans (congrArg some (by kernel_rfl))
  f285 := Tryd.func79.trans (congrArg some (by kernel_rfl))
  f286 := Tryd.func80.trans (congrArg some (by kernel_rfl))
  f317 := Tryd.func85.trans (congrArg some (by kernel_rfl))
  f318 := Tryd.func87.trans (congrArg some (by kernel_rfl))
  f319 := Tryd.func88.trans (congrArg some (by kernel_rfl))
  f320 := Tryd.func89.trans (congrArg some (by kernel_rfl))
  f337 := Tryd.func90.trans (congrArg some (by kernel_rfl))
  f338 := Tryd.func91.trans (congrArg some (by kernel_rfl))
  t0 := Tryd.underlying0
  a0 := Tryd.isAgg0
  z0 := Tryd.sizeOf0
  v0 := Tryd.zeroValue0
  t2 := Tryd.underlying2
  a2 := Tryd.isAgg2
  z2 := Tryd.sizeOf2
  v2 := Tryd.zeroValue2
  t3 := Tryd.underlying3
  a3 := Tryd.isAgg3
  z3 := Tryd.sizeOf3
  v3 := Tryd.zeroValue3
  t4 := Tryd.underlying4
  a4 := Tryd.isAgg4
  z4 := Tryd.sizeOf4
  v4 := Tryd.zeroValue4
  t5 := Tryd.underlying5
  a5 := Tryd.isAgg5
  z5 := Tryd.sizeOf5
  v5 := Tryd.zeroValue5
  t9 := Tryd.underlying9
  a9 := Tryd.isAgg9
  z9 := Tryd.sizeOf9
  v9 := Tryd.zeroValue9
  t20 := Tryd.underlying20
  a20 := Tryd.isAgg20
  z20 := Tryd.sizeOf20
  v20 := Tryd.zeroValue20
  t37 := Tryd.underlying49
  a37 := Tryd.isAgg49
  z37 := Tryd.sizeOf49
  v37 := Tryd.zeroValue49
  t46 := Tryd.underlying73
  a46 := Tryd.isAgg73
  z46 := Tryd.sizeOf73
  v46 := Tryd.zeroValue73
  t51 := Tryd.underlying88
  a51 := Tryd.isAgg88
  z51 := Tryd.sizeOf88
  v51 := Tryd.zeroValue88
  t53 := Tryd.underlying91
  a53 := Tryd.isAgg91
  z53 := Tryd.sizeOf91
  v53 := Tryd.zeroValue91
  t171 := Tryd.underlying98
  a171 := Tryd.isAgg98
  z171 := Tryd.sizeOf98
  v171 := Tryd.zeroValue98
  t173 := Tryd.underlying101
  a173 := Tryd.isAgg101
  z173 := Tryd.sizeOf101
  v173 := Tryd.zeroValue101
  t212 := Tryd.underlying111
  a212 := Tryd.isAgg111
  z212 := Tryd.sizeOf111
  v212 := Tryd.zeroValue111
  t213 := Tryd.underlying112
  a213 := Tryd.isAgg112
  z213 := Tryd.sizeOf112
  t232 := Tryd.underlying116
  a232 := Tryd.isAgg116
  z232 := Tryd.sizeOf116
  v232 := Tryd.zeroValue116
  t233 := Tryd.underlying117
  a233 := Tryd.isAgg117
  z233 := Tryd.sizeOf117
  v233 := Tryd.zeroValue117
  g17 := by kernel_rfl
  g18 := by kernel_rfl
  g19 := by kernel_rfl
  i0 := by kernel_rfl
  i2 := by kernel_rfl
  i3 := by kernel_rfl
  i4 := by kernel_rfl
  i5 := by kernel_rfl
  i9 := by kernel_rfl
  i20 := by kernel_rfl
  i37 := by kernel_rfl
  i46 := by kernel_rfl
  i51 := by kernel_rfl
  i53 := by kernel_rfl
  i171 := by kernel_rfl
  i173 := by kernel_rfl
  i212 := by kernel_rfl
  i232 := by kernel_rfl
  i233 := by kernel_rfl
  m17 := by kernel_rfl
  m18 := by kernel_rfl
  m19 := by kernel_rfl }
open Go.RowKit Go.Sort Go.Lib in
/-- strconv.Itoa: "Itoa is equivalent to FormatInt(int64(i), 10).": i's DECIMAL NUMERAL ('Lib.itoa': a '-' where i is negative, then the digits), FOR EVERY int. The world behind the call: the world before it, new blocks behind the heap (the library's 'var a [24]byte'), draws. (LAID: no walk: one application.) -/
theorem Tryd.strconv_Itoa (n : Int) (h0 : -9223372036854775808 ≤ n) (h1 : n ≤ 9223372036854775807) (w : World) (htab : Lib.TabIs Tryd.prog w "internal/strconv.uint64pow10" .u64 Lib.pow10Tab) :
    Calls Tryd.prog 41 #[.int .i64 n] w fun e w' => e = .returned (.string ⟨(Lib.itoa n).toArray⟩) ∧ ∃ k os, w' = grow (w.drewN k) os := Any.strconv_Itoa Tryd.laysM171 n h0 h1 w htab
def Tryd.laysC172_ren : Go.Shelf.Ren := ⟨fun | 172 => 39 | 244 => 49 | 245 => 50 | 247 => 62 | 279 => 63 | 280 => 64 | 281 => 65 | 282 => 66 | 287 => 74 | 316 => 75 | 171 => 41 | 205 => 76 | 321 => 83 | 322 => 84 | 243 => 51 | 246 => 67 | 283 => 77 | 284 => 78 | 285 => 79 | 286 => 80 | 129 => 86 | 317 => 85 | 318 => 87 | 319 => 88 | 320 => 89 | 337 => 90 | 338 => 91 | n => n, fun | 9 => 9 | 3 => 3 | 75 => 56 | 76 => 57 | 4 => 4 | 5 => 5 | 167 => 74 | 37 => 49 | 0 => 0 | 85 => 75 | 2 => 2 | 168 => 77 | 53 => 91 | 175 => 92 | 46 => 73 | 210 => 96 | 127 => 83 | 145 => 109 | 143 => 107 | 21 => 21 | 171 => 98 | 173 => 101 | 212 => 111 | 51 => 88 | 20 => 20 | 213 => 112 | 232 => 116 | 233 => 117 | 80 => 71 | n => n, fun | 15 => 3 | 16 => 4 | 17 => 5 | 18 => 6 | 19 => 7 | n => n⟩
theorem Tryd.laysC172 : Go.Proofs.LaysC.n172 Tryd.prog Tryd.laysC172_ren := {
  mixed := by kernel_rfl
  f129 := Tryd.func86.trans (congrArg some (by kernel_rfl))
  f171 := Tryd.func41.trans (congrArg some (by kernel_rfl))
  f172 := Tryd.func39.trans (congrArg some (by kernel_rfl))
  f205 := Tryd.func76.trans (congrArg some (by kernel_rfl))
  f243 := Tryd.func51.trans (congrArg some (by kernel_rfl))
  f244 := Tryd.func49.trans (congrArg some (by kernel_rfl))
  f245 := Tryd.func50.trans (congrArg some (by kernel_rfl))
  f246 := Tryd.func67.trans (congrArg some (by kernel_rfl))
  f247 := Tryd.func62.trans (congrArg some (by kernel_rfl))
  f279 := Tryd.func63.trans (congrArg some (by kernel_rfl))
  f280 := Tryd.func64.trans (congrArg some (by kernel_rfl))
  f281 := Tryd.func65.trans (congrArg some (by kernel_rfl))
  f282 := Tryd.func66.trans (congrArg some (by kernel_rfl))
  f283 := Tryd.func77.trans (congrArg some (by kernel_rfl))
  f284 := Tryd.func78.trans (congrArg some (by kernel_rfl))
  f285 := Tryd.func79.trans (congrArg some (by kernel_rfl))
  f286 := Tryd.func80.trans (congrArg some (by kernel_rfl))
  f287 := Tryd.func74.trans (congrArg some (by kernel_rfl))
  f316 := Tryd.func75.trans (congrArg some (by kernel_rfl))
  f317 := Tryd.func85.trans (congrArg some (by kernel_rfl))
  f318 := Tryd.func87.trans (congrArg some (by kernel_rfl))
  f319 := Tryd.func88.trans (congrArg some (by kernel_rfl))
  f320 := Tryd.func89.trans (congrArg some (by kernel_rfl))
  f321 := Tryd.func83.trans (congrArg some (by kernel_rfl))
  f322 := Tryd.func84.trans (congrArg some (by kernel_rfl))
  f337 := Tryd.func90.trans (congrArg some (by kernel_rfl))
  f338 := Tryd.func91.trans (congrArg some (by kernel_rfl))
  t0 := Tryd.underlying0
  a0 := Tryd.isAgg0
  z0 := Tryd.sizeOf0
  v0 := Tryd.zeroValue0
  t2 := Tryd.underlying2
  a2 := Tryd.isAgg2
  z2 := Tryd.sizeOf2
  v2 := Tryd.zeroValue2
  t3 := Tryd.underlying3
  a3 := Tryd.isAgg3
  z3 := Tryd.sizeOf3
  v3 := Tryd.zeroValue3
  t4 := Tryd.underlying4
  a4 := Tryd.isAgg4
  z4 := Tryd.sizeOf4
  v4 := Tryd.zeroValue4
  t5 := Tryd.underlying5
  a5 := Tryd.isAgg5
  z5 := Tryd.sizeOf5
  v5 := Tryd.zeroValue5
  t9 := Tryd.underlying9
  a9 := Tryd.isAgg9
  z9 := Tryd.sizeOf9
  v9 := Tryd.zeroValue9
  t20 := Tryd.underlying20
  a20 := Tryd.isAgg20
  z20 := Tryd.sizeOf20
  v20 := Tryd.zeroValue20
  t21 := Tryd.underlying21
  a21 := Tryd.isAgg21
  z21 := Tryd.sizeOf21
  v21 := Tryd.zeroValue21
  t37 := Tryd.underlying49
  a37 := Tryd.isAgg49
  z37 := Tryd.sizeOf49
  v37 := Tryd.zeroValue49
  t46 := Tryd.underlying73
  a46 := Tryd.isAgg73
  z46 := Tryd.sizeOf73
  v46 := Tryd.zeroValue73
  t51 := Tryd.underlying88
  a51 := Tryd.isAgg88
  z51 := Tryd.sizeOf88
  v51 := Tryd.zeroValue88
  t53 := Tryd.underlying91
  a53 := Tryd.isAgg91
  z53 := Tryd.sizeOf91
  v53 := Tryd.zeroValue91
  t75 := Tryd.underlying56
  a75 := Tryd.isAgg56
  z75 := Tryd.sizeOf56
  v75 := Tryd.zeroValue56
  t76 := Tryd.underlying57
  a76 := Tryd.isAgg57
  z76 := Tryd.sizeOf57
  v76 := Tryd.zeroValue57
  t85 := Tryd.underlying75
  a85 := Tryd.isAgg75
  z85 := Tryd.sizeOf75
  v85 := Tryd.zeroValue75
  t127 := Tryd.underlying83
  a127 := Tryd.isAgg83
  z127 := Tryd.sizeOf83
  v127 := Tryd.zeroValue83
  t143 := Tryd.underlying107
  a143 := Tryd.isAgg107
  z143 := Tryd.sizeOf107
  v143 := Tryd.zeroValue107
  t145 := Tryd.underlying109
  a145 := Tryd.isAgg109
  z145 := Tryd.sizeOf109
  v145 := Tryd.zeroValue109
  t167 := Tryd.underlying74
  a167 := Tryd.isAgg74
  z167 := Tryd.sizeOf74
  v167 := Tryd.zeroValue74
  t168 := Tryd.underlying77
  a168 := Tryd.isAgg77
  z168 := Tryd.sizeOf77
  v168 := Tryd.zeroValue77
  t171 := Tryd.underlying98
  a171 := Tryd.isAgg98
  z171 := Tryd.sizeOf98
  v171 := Tryd.zeroValue98
  t173 := Tryd.underlying101
  a173 := Tryd.isAgg101
  z173 := Tryd.sizeOf101
  v173 := Tryd.zeroValue101
  t175 := Tryd.underlying92
  a175 := Tryd.isAgg92
  z175 := Tryd.sizeOf92
  v175 := Tryd.zeroValue92
  t210 := Tryd.underlying96
  a210 := Tryd.isAgg96
  z210 := Tryd.sizeOf96
  v210 := Tryd.zeroValue96
  t212 := Tryd.underlying111
  a212 := Tryd.isAgg111
  z212 := Tryd.sizeOf111
  v212 := Tryd.zeroValue111
  t213 := Tryd.underlying112
  a213 := Tryd.isAgg112
  z213 := Tryd.sizeOf112
  t232 := Tryd.underlying116
  a232 := Tryd.isAgg116
  z232 := Tryd.sizeOf116
  v232 := Tryd.zeroValue116
  t233 := Tryd.underlying117
  a233 := Tryd.isAgg117
  z233 := Tryd.sizeOf117
  v233 := Tryd.zeroValue117
  g15 := by kernel_rfl
  g16 := by kernel_rfl
  g17 := by kernel_rfl
  g18 := by kernel_rfl
  g19 := by kernel_rfl
  t80 := Tryd.underlying71
  a80 := Tryd.isAgg71
  z80 := Tryd.sizeOf71
  v80 := Tryd.zeroValue71
  i0 := by kernel_rfl
  i2 := by kernel_rfl
  i3 := by kernel_rfl
  i4 := by kernel_rfl
  i5 := by kernel_rfl
  i9 := by kernel_rfl
  i20 := by kernel_rfl
  i21 := by kernel_rfl
  i37 := by kernel_rfl
  i46 := by kernel_rfl
  i51 := by kernel_rfl
  i53 := by kernel_rfl
  i75 := by kernel_rfl
  i76 := by kernel_rfl
  i80 := by kernel_rfl
  i85 := by kernel_rfl
  i127 := by kernel_rfl
  i143 := by kernel_rfl
  i145 := by kernel_rfl
  i167 := by kernel_rfl
  i168 := by kernel_rfl
  i171 := by kernel_rfl
  i173 := by kernel_rfl
  i175 := by kernel_rfl
  i210 := by kernel_rfl
  i212 := by kernel_rfl
  i232 := by kernel_rfl
  i233 := by kernel_rfl
  m15 := by kernel_rfl
  m16 := by kernel_rfl
  m17 := by kernel_rfl
  m18 := by kernel_rfl
  m19 := by kernel_rfl
  c0 := by kernel_rfl
  c2 := by kernel_rfl
  c3 := by kernel_rfl
  c4 := by kernel_rfl
  c5 := by kernel_rfl
  c9 := by kernel_rfl
  c20 := by kernel_rfl
  c21 := by kernel_rfl
  c37 := by kernel_rfl
  c46 := by kernel_rfl
  c51 := by kernel_rfl
  c53 := by kernel_rfl
  c75 := by kernel_rfl
  c76 := by kernel_rfl
  c80 := by kernel_rfl
  c85 := by kernel_rfl
  c127 := by kernel_rfl
  c143 := by kernel_rfl
  c145 := by kernel_rfl
  c167 := by kernel_rfl
  c168 := by kernel_rfl
  c171 := by kernel_rfl
  c173 := by kernel_rfl
  c175 := by kernel_rfl
  c210 := by kernel_rfl
  c212 := by kernel_rfl
  c213 := by kernel_rfl
  c232 := by kernel_rfl
  c233 := by kernel_rfl }
open Go.RowKit in
/-- strconv.Atoi, AT EVERY STRING THAT SPELLS AN int ('Lib.atoiAll .. = .ok v'; of whatever length: leading zeros count): v, AND NO ERROR. The world: as it was, or with the one new row that '[]byte(..)' lays. (LAID: no walk: one application.) -/
theorem Tryd.strconv_Atoi_ok (s : ByteArray) (hmax : s.size ≤ 9223372036854775806) (v : Int) (h : Lib.atoiAll s.data.toList = .ok v) (w : World) :
    Calls Tryd.prog 39 #[.string s] w fun e w' => e = .returned (.tuple #[.int .i64 v, .nilIface]) ∧ (w' = w ∨ ∃ t, w' = Lib.bytesWorld w 5 t) := Any.strconv_Atoi_ok Tryd.laysC172 s hmax v h w
open Go.RowKit in
/-- strconv.Atoi, AT EVERY NUMERAL THAT NO int HOLDS ('.range'): THE GREATEST OR THE LEAST int, BY THE SIGN ('Lib.atoiSat'), AND AN ERROR THAT IS NOT nil: a *NumError in a new block N: {Func: "Atoi", Num: s's bytes, Err: what the variable ErrRange holds}. Of what was there nothing has turned. (LAID: no walk: one application.) -/
theorem Tryd.strconv_Atoi_range (s : ByteArray) (hlim : s.size ≤ 281474976710656) (h : Lib.atoiAll s.data.toList = .range) (ev : Value) (w : World) (hv : w.cell? ⟨4, 0, none⟩ = some ev) (hev : ev = .nilIface ∨ ∃ te pe, ev = .iface te pe) :
    Calls Tryd.prog 39 #[.string s] w fun e w' => ∃ N, e = .returned (.tuple #[.int .i64 (Lib.atoiSat s.data.toList), .iface 77 (.pointer (some ⟨N, 0, none⟩))]) ∧ w.heap.size ≤ N ∧ w'.heap[N]? = some (.cells #[.string ⟨#[65, 116, 111, 105]⟩, .string s, ev] 96 (0, 0)) ∧ Below w.heap.size w w' := Any.strconv_Atoi_range Tryd.laysC172 s hlim h ev w hv hev
def Tryd.lays146_ren : Go.Shelf.Ren := ⟨fun | 146 => 13 | 221 => 23 | 268 => 36 | 138 => 37 | 143 => 38 | 195 => 45 | 197 => 46 | 218 => 47 | 219 => 48 | 260 => 57 | 217 => 58 | 225 => 59 | 224 => 60 | 267 => 61 | 266 => 72 | 314 => 73 | n => n, fun | 9 => 9 | 31 => 28 | 3 => 3 | 4 => 4 | 0 => 0 | 105 => 63 | 21 => 21 | 5 => 5 | 46 => 73 | 119 => 84 | 139 => 87 | 138 => 86 | 146 => 89 | 51 => 88 | n => n, fun | 1 => 0 | 3 => 1 | 4 => 2 | n => n⟩
theorem Tryd.lays146 : Go.Proofs.Lays.n146 Tryd.prog Tryd.lays146_ren := {
  mixed := by kernel_rfl
  f138 := Tryd.func37.trans (congrArg some (by kernel_rfl))
  f143 := Tryd.func38.trans (congrArg some (by kernel_rfl))
  f146 := Tryd.func13.trans (congrArg some (by kernel_rfl))
  f195 := Tryd.func45.trans (congrArg some (by kernel_rfl))
  f197 := Tryd.func46.trans (congrArg some (by kernel_rfl))
  f217 := Tryd.func58.trans (congrArg some (by kernel_rfl))
  f218 := Tryd.func47.trans (congrArg some (by kernel_rfl))
  f219 := Tryd.func48.trans (congrArg some (by kernel_rfl))
  f221 := Tryd.func23.trans (congrArg some (by kernel_rfl))
  f224 := Tryd.func60.trans (congrArg some (by kernel_rfl))
  f225 := Tryd.func59.trans (congrArg some (by kernel_rfl))
  f260 := Tryd.func57.trans (congrArg some (by kernel_rfl))
  f266 := Tryd.func72.trans (congrArg some (by kernel_rfl))
  f267 := Tryd.func61.trans (congrArg some (by kernel_rfl))
  f268 := Tryd.func36.trans (congrArg some (by kernel_rfl))
  f314 := Tryd.func73.trans (congrArg some (by kernel_rfl))
  t0 := Tryd.underlying0
  a0 := Tryd.isAgg0
  z0 := Tryd.sizeOf0
  v0 := Tryd.zeroValue0
  t3 := Tryd.underlying3
  a3 := Tryd.isAgg3
  z3 := Tryd.sizeOf3
  v3 := Tryd.zeroValue3
  t4 := Tryd.underlying4
  a4 := Tryd.isAgg4
  z4 := Tryd.sizeOf4
  v4 := Tryd.zeroValue4
  t5 := Tryd.underlying5
  a5 := Tryd.isAgg5
  z5 := Tryd.sizeOf5
  v5 := Tryd.zeroValue5
  t9 := Tryd.underlying9
  a9 := Tryd.isAgg9
  z9 := Tryd.sizeOf9
  v9 := Tryd.zeroValue9
  t21 := Tryd.underlying21
  a21 := Tryd.isAgg21
  z21 := Tryd.sizeOf21
  v21 := Tryd.zeroValue21
  t31 := Tryd.underlying28
  a31 := Tryd.isAgg28
  z31 := Tryd.sizeOf28
  v31 := Tryd.zeroValue28
  t46 := Tryd.underlying73
  a46 := Tryd.isAgg73
  z46 := Tryd.sizeOf73
  v46 := Tryd.zeroValue73
  t51 := Tryd.underlying88
  a51 := Tryd.isAgg88
  z51 := Tryd.sizeOf88
  v51 := Tryd.zeroValue88
  t105 := Tryd.underlying63
  a105 := Tryd.isAgg63
  z105 := Tryd.sizeOf63
  v105 := Tryd.zeroValue63
  t119 := Tryd.underlying84
  a119 := Tryd.isAgg84
  z119 := Tryd.sizeOf84
  t138 := Tryd.underlying86
  a138 := Tryd.isAgg86
  z138 := Tryd.sizeOf86
  v138 := Tryd.zeroValue86
  t139 := Tryd.underlying87
  a139 := Tryd.isAgg87
  z139 := Tryd.sizeOf87
  v139 := Tryd.zeroValue87
  t146 := Tryd.underlying89
  a146 := Tryd.isAgg89
  z146 := Tryd.sizeOf89
  v146 := Tryd.zeroValue89
  g1 := by kernel_rfl
  g3 := by kernel_rfl
  g4 := by kernel_rfl }
open Go.RowKit Go.Lib in
/-- strings.Split. (LAID: no walk: one application.) -/
theorem Tryd.strings_Split (s sep : ByteArray) (m : Int) (w : World) (hs : s.size < 4294967281) (hm : w.cell? ⟨0, 0, none⟩ = some (.int .i64 m)) (h1 : 1 ≤ sep.size) :
    Calls Tryd.prog 13 #[.string s, .string sep] w fun e w' =>
      e = .returned (.slice (some ⟨w.heap.size, 0, none⟩) (Lib.countB s sep + 1) (Lib.countB s sep + 1)) ∧ w' = w.alloc (.cells ((Lib.splitB sep 0 (Lib.countB s sep) s).map Value.string).toArray 9) := Any.strings_Split Tryd.lays146 (by kernel_rfl) s sep m w hs hm h1
def Tryd.laysM146_ren : Go.Shelf.Ren := ⟨fun | 146 => 13 | 221 => 23 | 268 => 36 | 138 => 37 | 143 => 38 | 195 => 45 | 197 => 46 | 218 => 47 | 219 => 48 | 260 => 57 | 217 => 58 | 225 => 59 | 224 => 60 | 267 => 61 | 266 => 72 | 314 => 73 | n => n, fun | 9 => 9 | 31 => 28 | 3 => 3 | 4 => 4 | 0 => 0 | 105 => 63 | 21 => 21 | 5 => 5 | 46 => 73 | 119 => 84 | 139 => 87 | 138 => 86 | 146 => 89 | 51 => 88 | n => n, fun | 1 => 0 | 3 => 1 | 4 => 2 | n => n⟩
theorem Tryd.laysM146 : Go.Proofs.LaysM.n146 Tryd.prog Tryd.laysM146_ren := {
  mixed := by kernel_rfl
  f138 := Tryd.func37.trans (congrArg some (by kernel_rfl))
  f143 := Tryd.func38.trans (congrArg some (by kernel_rfl))
  f146 := Tryd.func13.trans (congrArg some (by kernel_rfl))
  f195 := Tryd.func45.trans (congrArg some (by kernel_rfl))
  f197 := Tryd.func46.trans (congrArg some (by kernel_rfl))
  f217 := Tryd.func58.trans (congrArg some (by kernel_rfl))
  f218 := Tryd.func47.trans (congrArg some (by kernel_rfl))
  f219 := Tryd.func48.trans (congrArg some (by kernel_rfl))
  f221 := Tryd.func23.trans (congrArg some (by kernel_rfl))
  f224 := Tryd.func60.trans (congrArg some (by kernel_rfl))
  f225 := Tryd.func59.trans (congrArg some (by kernel_rfl))
  f260 := Tryd.func57.trans (congrArg some (by kernel_rfl))
  f266 := Tryd.func72.trans (congrArg some (by kernel_rfl))
  f267 := Tryd.func61.trans (congrArg some (by kernel_rfl))
  f268 := Tryd.func36.trans (congrArg some (by kernel_rfl))
  f314 := Tryd.func73.trans (congrArg some (by kernel_rfl))
  t0 := Tryd.underlying0
  a0 := Tryd.isAgg0
  z0 := Tryd.sizeOf0
  v0 := Tryd.zeroValue0
  t3 := Tryd.underlying3
  a3 := Tryd.isAgg3
  z3 := Tryd.sizeOf3
  v3 := Tryd.zeroValue3
  t4 := Tryd.underlying4
  a4 := Tryd.isAgg4
  z4 := Tryd.sizeOf4
  v4 := Tryd.zeroValue4
  t5 := Tryd.underlying5
  a5 := Tryd.isAgg5
  z5 := Tryd.sizeOf5
  v5 := Tryd.zeroValue5
  t9 := Tryd.underlying9
  a9 := Tryd.isAgg9
  z9 := Tryd.sizeOf9
  v9 := Tryd.zeroValue9
  t21 := Tryd.underlying21
  a21 := Tryd.isAgg21
  z21 := Tryd.sizeOf21
  v21 := Tryd.zeroValue21
  t31 := Tryd.underlying28
  a31 := Tryd.isAgg28
  z31 := Tryd.sizeOf28
  v31 := Tryd.zeroValue28
  t46 := Tryd.underlying73
  a46 := Tryd.isAgg73
  z46 := Tryd.sizeOf73
  v46 := Tryd.zeroValue73
  t51 := Tryd.underlying88
  a51 := Tryd.isAgg88
  z51 := Tryd.sizeOf88
  v51 := Tryd.zeroValue88
  t105 := Tryd.underlying63
  a105 := Tryd.isAgg63
  z105 := Tryd.sizeOf63
  v105 := Tryd.zeroValue63
  t119 := Tryd.underlying84
  a119 := Tryd.isAgg84
  z119 := Tryd.sizeOf84
  t138 := Tryd.underlying86
  a138 := Tryd.isAgg86
  z138 := Tryd.sizeOf86
  v138 := Tryd.zeroValue86
  t139 := Tryd.underlying87
  a139 := Tryd.isAgg87
  z139 := Tryd.sizeOf87
  v139 := Tryd.zeroValue87
  t146 := Tryd.underlying89
  a146 := Tryd.isAgg89
  z146 := Tryd.sizeOf89
  v146 := Tryd.zeroValue89
  g1 := by kernel_rfl
  g3 := by kernel_rfl
  g4 := by kernel_rfl
  i0 := by kernel_rfl
  i3 := by kernel_rfl
  i4 := by kernel_rfl
  i5 := by kernel_rfl
  i9 := by kernel_rfl
  i21 := by kernel_rfl
  i31 := by kernel_rfl
  i46 := by kernel_rfl
  i51 := by kernel_rfl
  i105 := by kernel_rfl
  i138 := by kernel_rfl
  i139 := by kernel_rfl
  i146 := by kernel_rfl
  m1 := by kernel_rfl
  s1_3 := fun w h => Go.Proofs.cell_of_shapedOpen_int (zero := #[.int .i64 0]) (t := 3) h (of_decide_eq_true (by kernel_rfl)) (by kernel_rfl) rfl (by kernel_rfl) (by kernel_rfl) Tryd.underlying3
  m3 := by kernel_rfl
  m4 := by kernel_rfl }
end Go.Proofs
set_option linter.unusedVariables false
set_option linter.unusedSimpArgs false
namespace Go.Proofs.YtcjloeeomhiblaaDoor.E
open Go.RowKit Go.Proofs.YtcjloeeomhiblaaDoorW.PrintWords
variable {α β S R : Type}

theorem ev_cast {g : Nat → Option α} {r r' : α} (h : Ev g r) (e : r = r') : Ev g r' := e ▸ h
theorem ev_pos {c : Prop} [Decidable c] (h : c) {f g : Nat → Option α} {r : α} (k : Ev f r) : Ev (fun k => if c then f k else g k) r := Ev.congr (fun _ => if_pos h) k
theorem ev_neg {c : Prop} [Decidable c] (h : ¬ c) {f g : Nat → Option α} {r : α} (k : Ev g r) : Ev (fun k => if c then f k else g k) r := Ev.congr (fun _ => if_neg h) k
theorem ev_ite {c : Prop} [Decidable c] {f g : Nat → Option α} {r : α} (h1 : c → Ev f r) (h2 : ¬ c → Ev g r) : Ev (fun k => if c then f k else g k) r := by
  by_cases h : c
  · exact ev_pos h (h1 h)
  · exact ev_neg h (h2 h)
theorem ev_now {r r' : α} (e : r = r') : Ev (fun _ => some r) r' := e ▸ Ev.now r
theorem ev_bind0 {o : Option α} {a : α} (h : o = some a) {f : Nat → α → Option β} {r : β} (k : Ev (fun n => f n a) r) : Ev (fun n => o.bind (f n)) r := by subst h; exact k
theorem ev_some {a : α} {f : Nat → α → Option β} {r : β} (k : Ev (fun n => f n a) r) : Ev (fun n => (some a).bind (f n)) r := k
theorem ev_of {o : Option α} {r : α} (h : o = some r) : Ev (fun _ => o) r := h ▸ Ev.now r
/-- With rounds: what a printed function's '.f' tells for ever, told of a number of rounds. -/
theorem ev_get {g : Nat → Option α} {r : α} (h : Ev g r) : ∃ k, g k = some r := Ev.rounds h
theorem ev_unique {g : Nat → Option α} {r r' : α} (h : Ev g r) (h' : Ev g r') : r = r' := by
  obtain ⟨K, hK⟩ := h
  obtain ⟨K', hK'⟩ := h'
  have h1 := hK (max K K') (Nat.le_max_left _ _)
  have h2 := hK' (max K K') (Nat.le_max_right _ _)
  rw [h1] at h2
  exact Option.some.inj h2

theorem wrap_id {x : Int} (h0 : -9223372036854775808 ≤ x) (h1 : x ≤ 9223372036854775807) : wrap64 x = x := IntWalk.wrap64_in x ⟨h0, h1⟩
theorem wrap_succ {i n : Nat} (h : i < n) (hn : n ≤ 9223372036854775807) : wrap64 ((i : Int) + 1) = ((i + 1 : Nat) : Int) := by rw [wrap_id] <;> omega
theorem drop_cons {xs : List α} {i : Nat} {x : α} {r : List α} (h : xs.drop i = x :: r) (d : α) : xs.getD i d = x ∧ i < xs.length ∧ xs.drop (i + 1) = r ∧ xs[i]? = some x := by
  have hi : i < xs.length := by
    rcases Nat.lt_or_ge i xs.length with h' | h'
    · exact h'
    · rw [List.drop_eq_nil_of_le h'] at h; cases h
  have h2 := List.drop_eq_getElem_cons hi
  rw [h] at h2
  injection h2 with h3 h4
  exact ⟨by rw [List.getD_eq_getElem?_getD, List.getElem?_eq_getElem hi, Option.getD_some, h3], hi, h4.symm, by rw [List.getElem?_eq_getElem hi, h3]⟩

/-- A loop over a list by an index, with a state: what it answers is a recursion over what is left. -/
theorem ev_scan {L : Nat → S → Int → Option R} {G : S → Nat → List α → R} (I : S → Nat → List α → Prop) (xs : List α)
    (hend : ∀ s, I s xs.length [] → Ev (fun k => L k s xs.length) (G s xs.length []))
    (hstep : ∀ s (i : Nat) x r, I s i (x :: r) → i < xs.length → xs.drop i = x :: r → (∀ d, xs.getD i d = x) →
      (∀ s', I s' (i + 1) r → Ev (fun k => L k s' ((i + 1 : Nat) : Int)) (G s' (i + 1) r)) → Ev (fun k => L k s i) (G s i (x :: r))) :
    ∀ (n i : Nat) s, n = xs.length - i → i ≤ xs.length → I s i (xs.drop i) → Ev (fun k => L k s i) (G s i (xs.drop i)) := by
  intro n
  induction n with
  | zero =>
    intro i s hn hi hI
    obtain rfl : i = xs.length := by omega
    rw [List.drop_length] at hI ⊢
    exact hend s hI
  | succ n ih =>
    intro i s hn hi hI
    have hlt : i < xs.length := by omega
    obtain ⟨x, r, hd⟩ : ∃ x r, xs.drop i = x :: r := ⟨_, _, List.drop_eq_getElem_cons hlt⟩
    have hc := fun d => drop_cons hd d
    rw [hd] at hI ⊢
    refine hstep s i x r hI hlt hd (fun d => (hc d).1) (fun s' hI' => ?_)
    have := ih (i + 1) s' (by omega) (by omega)
    rw [(hc x).2.2.1] at this
    exact this hI'
theorem ev_scan0 {L : Nat → S → Int → Option R} {G : S → Nat → List α → R} (I : S → Nat → List α → Prop) (xs : List α) (s : S) (h0 : I s 0 xs)
    (hend : ∀ s, I s xs.length [] → Ev (fun k => L k s xs.length) (G s xs.length []))
    (hstep : ∀ s (i : Nat) x r, I s i (x :: r) → i < xs.length → xs.drop i = x :: r → (∀ d, xs.getD i d = x) →
      (∀ s', I s' (i + 1) r → Ev (fun k => L k s' ((i + 1 : Nat) : Int)) (G s' (i + 1) r)) → Ev (fun k => L k s i) (G s i (x :: r))) :
    Ev (fun k => L k s 0) (G s 0 xs) := ev_scan I xs hend hstep xs.length 0 s (by omega) (by omega) h0
/-- The same without a state. -/
theorem ev_walk {L : Nat → Int → Option R} {G : Nat → List α → R} (xs : List α)
    (hend : Ev (fun k => L k xs.length) (G xs.length []))
    (hstep : ∀ (i : Nat) x r, i < xs.length → xs.drop i = x :: r → (∀ d, xs.getD i d = x) →
      Ev (fun k => L k ((i + 1 : Nat) : Int)) (G (i + 1) r) → Ev (fun k => L k i) (G i (x :: r))) :
    Ev (fun k => L k 0) (G 0 xs) :=
  ev_scan0 (L := fun k (_ : Unit) i => L k i) (G := fun _ i r => G i r) (fun _ _ _ => True) xs () trivial (fun _ _ => hend) (fun _ i x r _ h1 h2 h3 h4 => hstep i x r h1 h2 h3 (h4 () trivial))

/-- A loop that compares two lists element by element: a list with itself. -/
theorem ev_same {L : Nat → Int → Option Bool} (n : Nat) (hend : Ev (fun k => L k n) true)
    (hstep : ∀ i : Nat, i < n → Ev (fun k => L k ((i + 1 : Nat) : Int)) true → Ev (fun k => L k i) true) : Ev (fun k => L k 0) true := by
  have main : ∀ (m i : Nat), m = n - i → i ≤ n → Ev (fun k => L k i) true := by
    intro m
    induction m with
    | zero => intro i h1 h2; obtain rfl : i = n := by omega
              exact hend
    | succ m ih => intro i h1 h2; exact hstep i (by omega) (ih (i + 1) (by omega) (by omega))
  exact main n 0 (by omega) (by omega)

theorem le_sum {l : List α} {f : α → Nat} {x : α} (h : x ∈ l) : f x ≤ (l.map f).sum := by
  induction l with
  | nil => cases h
  | cons y r ih =>
    rw [List.map_cons, List.sum_cons]
    rcases List.mem_cons.1 h with rfl | h
    · omega
    · have := ih h
      omega

/-- Marking: element by element, each with its own count of numbers. -/
def markAll (mk : Int → α → α) (c : α → Nat) : Int → List α → List α
  | _, [] => []
  | q, x :: r => mk q x :: markAll mk c (q + (c x : Int)) r
theorem markAll_length (mk : Int → α → α) (c : α → Nat) : ∀ (l : List α) (q : Int), (markAll mk c q l).length = l.length
  | [], _ => rfl
  | x :: r, q => by simp [markAll, markAll_length mk c r]
theorem ev_mark {L : Nat → List α → Int → Int → Option (Int × List α)} (xs : List α) (mk : Int → α → α) (c : α → Nat)
    (hend : ∀ (out : List α) (q : Int), out.length = xs.length → Ev (fun k => L k out q xs.length) (q, out))
    (hstep : ∀ (out : List α) (q : Int) (i : Nat) x y, i < xs.length → out.length = xs.length → out[i]? = some x → x ∈ xs → (∀ d, out.getD i d = x) → 0 ≤ q → q + (c x : Int) ≤ 4611686018427387904 →
      Ev (fun k => L k (out.set i (mk q x)) (q + (c x : Int)) ((i + 1 : Nat) : Int)) y → Ev (fun k => L k out q i) y)
    (q : Int) (hq : 0 ≤ q) (hb : q + ((xs.map c).sum : Int) ≤ 4611686018427387904) :
    Ev (fun k => L k xs q 0) (q + ((xs.map c).sum : Int), markAll mk c q xs) := by
  have main : ∀ (n i : Nat) (out : List α) (q : Int), n = xs.length - i → i ≤ xs.length → out.length = xs.length → out.drop i = xs.drop i → 0 ≤ q → q + (((xs.drop i).map c).sum : Int) ≤ 4611686018427387904 →
      Ev (fun k => L k out q i) (q + (((xs.drop i).map c).sum : Int), out.take i ++ markAll mk c q (xs.drop i)) := by
    intro n
    induction n with
    | zero =>
      intro i out q hn hi hl hd h0 h1
      obtain rfl : i = xs.length := by omega
      rw [List.drop_length, List.map_nil, List.sum_nil, markAll, List.append_nil, List.take_of_length_le (by omega)]
      exact ev_cast (hend out q hl) (by simp)
    | succ n ih =>
      intro i out q hn hi hl hd h0 h1
      have hlt : i < xs.length := by omega
      have hlo : i < out.length := by omega
      have e1 := List.drop_eq_getElem_cons hlt
      have e2 := List.drop_eq_getElem_cons hlo
      rw [hd, e1] at e2
      injection e2 with e3 e4
      rw [e1, List.map_cons, List.sum_cons] at h1
      have hx : out[i]? = some xs[i] := by rw [List.getElem?_eq_getElem hlo, e3]
      refine hstep out q i xs[i] _ hlt hl hx (List.getElem_mem hlt) (fun d => by rw [List.getD_eq_getElem?_getD, hx, Option.getD_some]) h0 (by omega) ?_
      refine ev_cast (ih (i + 1) (out.set i (mk q xs[i])) (q + (c xs[i] : Int)) (by omega) (by omega) (by rw [List.length_set]; exact hl) ?_ (by omega) (by omega)) ?_
      · rw [List.drop_set_of_lt (by omega)]; exact e4.symm
      · rw [e1, List.map_cons, List.sum_cons, markAll, List.take_succ_eq_append_getElem (by rw [List.length_set]; omega), List.getElem_set_self, List.append_assoc, List.singleton_append, List.take_set_of_le (Nat.le_refl i)]
        congr 1
        omega
  have h := main xs.length 0 xs q (by omega) (by omega) rfl rfl hq hb
  simpa using h
theorem ev_held {H : Nat → Int → Int → Option Int} (xs ys : List α) (mk : Int → α → α) (c : α → Nat) (q0 : Int) (hys : ys = markAll mk c q0 xs)
    (hend : ∀ q : Int, Ev (fun k => H k q xs.length) q)
    (hstep : ∀ (q : Int) (i : Nat) x y, i < xs.length → x ∈ xs → ys[i]? = some (mk q x) → (∀ d, ys.getD i d = mk q x) → 0 ≤ q → q + (c x : Int) ≤ 4611686018427387904 → Ev (fun k => H k (q + (c x : Int)) ((i + 1 : Nat) : Int)) y → Ev (fun k => H k q i) y)
    (hq : 0 ≤ q0) (hb : q0 + ((xs.map c).sum : Int) ≤ 4611686018427387904) : Ev (fun k => H k q0 0) (q0 + ((xs.map c).sum : Int)) := by
  have main : ∀ (n i : Nat) (q : Int), n = xs.length - i → i ≤ xs.length → ys.drop i = markAll mk c q (xs.drop i) → 0 ≤ q → q + (((xs.drop i).map c).sum : Int) ≤ 4611686018427387904 →
      Ev (fun k => H k q i) (q + (((xs.drop i).map c).sum : Int)) := by
    intro n
    induction n with
    | zero =>
      intro i q hn hi hd h0 h1
      obtain rfl : i = xs.length := by omega
      rw [List.drop_length, List.map_nil, List.sum_nil]
      exact ev_cast (hend q) (by simp)
    | succ n ih =>
      intro i q hn hi hd h0 h1
      have hlt : i < xs.length := by omega
      have hly : ys.length = xs.length := by rw [hys, markAll_length]
      have hlo : i < ys.length := by omega
      have e1 := List.drop_eq_getElem_cons hlt
      have e2 := List.drop_eq_getElem_cons hlo
      rw [hd, e1, markAll] at e2
      injection e2 with e3 e4
      rw [e1, List.map_cons, List.sum_cons] at h1 ⊢
      have hx : ys[i]? = some (mk q xs[i]) := by rw [List.getElem?_eq_getElem hlo, e3]
      refine hstep q i xs[i] _ hlt (List.getElem_mem hlt) hx (fun d => by rw [List.getD_eq_getElem?_getD, hx, Option.getD_some]) h0 (by omega) ?_
      refine ev_cast (ih (i + 1) (q + (c xs[i] : Int)) (by omega) (by omega) e4.symm (by omega) (by omega)) ?_
      omega
  have h := main xs.length 0 q0 (by omega) (by omega) (by simpa using hys) hq hb
  simpa using h

/-- The place of the first element with a property, counted from i on; -1 if there is none. -/
def idxG (p : α → Bool) : Nat → List α → Int
  | _, [] => -1
  | i, x :: r => if p x = true then (i : Int) else idxG p (i + 1) r
theorem idxG_spec (p : α → Bool) : ∀ (l : List α) (i : Nat), (idxG p i l = -1 ∧ ∀ x ∈ l, p x = false) ∨
    ∃ j x, j < l.length ∧ idxG p i l = ((i + j : Nat) : Int) ∧ l[j]? = some x ∧ p x = true ∧ l.find? p = some x ∧ ∀ m y, m < j → l[m]? = some y → p y = false
  | [], i => .inl ⟨rfl, by simp⟩
  | x :: r, i => by
    by_cases h : p x = true
    · exact .inr ⟨0, x, by simp, by simp [idxG, h], rfl, h, by simp [h], fun m y hm => by omega⟩
    · rcases idxG_spec p r (i + 1) with ⟨h1, h2⟩ | ⟨j, y, h1, h2, h3, h4, h5, h6⟩
      · refine .inl ⟨by simp [idxG, h, h1], fun z hz => ?_⟩
        rcases List.mem_cons.1 hz with rfl | hz
        · simpa using h
        · exact h2 z hz
      · refine .inr ⟨j + 1, y, by simp only [List.length_cons]; omega, ?_, by simpa using h3, h4, by simp [h, h5], fun m z hm hz => ?_⟩
        · rw [idxG, if_neg h, h2]; congr 1; omega
        · cases m with
          | zero => simp at hz; subst hz; simpa using h
          | succ m => exact h6 m z (by omega) (by simpa using hz)
theorem idxG_lt (p : α → Bool) (l : List α) (i : Nat) : idxG p i l < 0 ↔ l.any p = false := by
  rcases idxG_spec p l i with ⟨h1, h2⟩ | ⟨j, x, h1, h2, h3, h4, h5, h6⟩
  · rw [h1]
    refine ⟨fun _ => ?_, fun _ => by omega⟩
    rw [List.any_eq_false]; intro x hx; simp [h2 x hx]
  · rw [h2]
    refine ⟨fun h => by omega, fun h => ?_⟩
    rw [List.any_eq_false] at h
    exact absurd h4 (h x (List.mem_of_getElem? h3))
theorem idxG_here {p : α → Bool} {l : List α} {k : Nat} {x : α} (hx : l[k]? = some x) (hp : p x = true) (h : ∀ m y, m < k → l[m]? = some y → p y = false) : idxG p 0 l = (k : Int) := by
  rcases idxG_spec p l 0 with ⟨h1, h2⟩ | ⟨j, y, h1, h2, h3, h4, h5, h6⟩
  · exact absurd hp (by rw [h2 x (List.mem_of_getElem? hx)]; simp)
  · rcases Nat.lt_trichotomy j k with hj | hj | hj
    · rw [h j y hj h3] at h4; cases h4
    · subst hj; rw [h2]; simp
    · rw [h6 k x hj hx] at hp; cases hp
theorem idxG_none {p : α → Bool} {l : List α} (h : ∀ m y, m < l.length → l[m]? = some y → p y = false) : idxG p 0 l = -1 := by
  rcases idxG_spec p l 0 with ⟨h1, h2⟩ | ⟨j, y, h1, h2, h3, h4, h5, h6⟩
  · exact h1
  · rw [h j y h1 h3] at h4; cases h4
theorem idxG_nonneg (p : α → Bool) (l : List α) (i : Nat) : decide (0 ≤ idxG p i l) = l.any p := by
  have h := idxG_lt p l i
  by_cases c : l.any p = true
  · rw [c, decide_eq_true_eq]
    have : ¬ idxG p i l < 0 := fun h' => by rw [h.1 h'] at c; cases c
    omega
  · have c' : l.any p = false := by simpa using c
    rw [c', decide_eq_false_iff_not]
    have := h.2 c'
    omega

/-- A loop that asks a test at each place, with a state that is known at each place. -/
theorem ev_all {L : Nat → S → Int → Option R} (n : Nat) (St : Nat → S) (C : Nat → Bool) (F Rn : R) (hend : (∀ j, j < n → C j = true) → Ev (fun k => L k (St n) n) Rn)
    (hs : ∀ i, i < n → (∀ j, j < i → C j = true) → C i = true → ∀ y, Ev (fun k => L k (St (i + 1)) ((i + 1 : Nat) : Int)) y → Ev (fun k => L k (St i) i) y)
    (hf : ∀ i, i < n → (∀ j, j < i → C j = true) → C i = false → Ev (fun k => L k (St i) i) F) : Ev (fun k => L k (St 0) 0) (if (List.range n).all C = true then Rn else F) := by
  have main : ∀ (m i : Nat), m = n - i → i ≤ n → (∀ j, j < i → C j = true) → Ev (fun k => L k (St i) i) (if (List.range n).all C = true then Rn else F) := by
    intro m
    induction m with
    | zero =>
      intro i hm hi hC
      obtain rfl : i = n := by omega
      rw [if_pos (by rw [List.all_eq_true]; intro x hx; exact hC x (List.mem_range.1 hx))]
      exact hend hC
    | succ m ih =>
      intro i hm hi hC
      have hlt : i < n := by omega
      cases hc : C i with
      | true =>
        refine hs i hlt hC hc _ (ih (i + 1) (by omega) (by omega) (fun j hj => ?_))
        by_cases e : j = i
        · rw [e]; exact hc
        · exact hC j (by omega)
      | false =>
        rw [if_neg (by rw [List.all_eq_true]; intro h; rw [h i (List.mem_range.2 hlt)] at hc; cases hc)]
        exact hf i hlt hC hc
  exact main n 0 (by omega) (by omega) (fun j hj => by omega)
theorem ev_all0 {L : Nat → Int → Option R} (n : Nat) (C : Nat → Bool) (F Rn : R) (hend : (∀ j, j < n → C j = true) → Ev (fun k => L k n) Rn)
    (hs : ∀ i, i < n → (∀ j, j < i → C j = true) → C i = true → ∀ y, Ev (fun k => L k ((i + 1 : Nat) : Int)) y → Ev (fun k => L k i) y)
    (hf : ∀ i, i < n → (∀ j, j < i → C j = true) → C i = false → Ev (fun k => L k i) F) : Ev (fun k => L k 0) (if (List.range n).all C = true then Rn else F) :=
  ev_all (L := fun k (_ : Unit) i => L k i) n (fun _ => ()) C F Rn hend hs hf
theorem all_range {n : Nat} {C : Nat → Bool} : (List.range n).all C = true ↔ ∀ i, i < n → C i = true := by
  rw [List.all_eq_true]
  exact ⟨fun h i hi => h i (List.mem_range.2 hi), fun h i hi => h i (List.mem_range.1 hi)⟩
theorem getD_in {α : Type} {l : List α} {i : Nat} (h : i < l.length) (d : α) : l.getD i d = l[i] := by rw [List.getD_eq_getElem?_getD, List.getElem?_eq_getElem h, Option.getD_some]
theorem idxG_take (p : α → Bool) : ∀ (l : List α) (s i : Nat), idxG p s (l.take i) = if (s : Int) ≤ idxG p s l ∧ idxG p s l < ((s + i : Nat) : Int) then idxG p s l else -1
  | [], s, i => by
    rw [List.take_nil]
    by_cases h : (s : Int) ≤ idxG p s ([] : List α) ∧ idxG p s ([] : List α) < ((s + i : Nat) : Int)
    · rw [if_pos h]
    · rw [if_neg h]; rfl
  | x :: r, s, 0 => by
    have h : idxG p s ((x :: r).take 0) = -1 := rfl
    rw [h, if_neg]
    omega
  | x :: r, s, i + 1 => by
    rw [List.take_succ_cons]
    by_cases h : p x = true
    · have e1 : idxG p s (x :: r) = (s : Int) := by simp [idxG, h]
      have e2 : idxG p s (x :: r.take i) = (s : Int) := by simp [idxG, h]
      rw [e1, e2, if_pos (by omega)]
    · have e1 : idxG p s (x :: r) = idxG p (s + 1) r := by simp [idxG, h]
      have e2 : idxG p s (x :: r.take i) = idxG p (s + 1) (r.take i) := by simp [idxG, h]
      rw [e1, e2, idxG_take p r (s + 1) i]
      rcases idxG_spec p r (s + 1) with ⟨h1, _⟩ | ⟨j, y, _, h2, _⟩
      · rw [h1, if_neg (by omega), if_neg (by omega)]
      · rw [h2]
        by_cases c : j < i
        · rw [if_pos (by omega), if_pos (by omega)]
        · rw [if_neg (by omega), if_neg (by omega)]
/-- The first one is at i, where the property holds: just where there is none ahead. -/
theorem idxG_first {p : α → Bool} {l : List α} {i : Nat} {x : α} (hx : l[i]? = some x) (hp : p x = true) : idxG p 0 l = (i : Int) ↔ idxG p 0 (l.take i) < 0 := by
  rw [idxG_take]
  have hle : 0 ≤ idxG p 0 l ∧ idxG p 0 l ≤ (i : Int) := by
    rcases idxG_spec p l 0 with ⟨h1, h2⟩ | ⟨j, y, h0, h2, h3, h4, h5, h6⟩
    · rw [h2 x (List.mem_of_getElem? hx)] at hp; cases hp
    · rw [h2]
      rcases Nat.lt_or_ge i j with h | h
      · rw [h6 i x h hx] at hp; cases hp
      · omega
  constructor
  · intro e
    rw [e, if_neg (by omega)]; omega
  · intro h
    by_cases c : ((0 : Nat) : Int) ≤ idxG p 0 l ∧ idxG p 0 l < ((0 + i : Nat) : Int)
    · rw [if_pos c] at h; omega
    · omega
end Go.Proofs.YtcjloeeomhiblaaDoor.E
namespace Go.Proofs.YtcjloeeomhiblaaDoor.X
open Go.RowKit Go.Proofs.YtcjloeeomhiblaaDoorW.PrintWords Go.Proofs.YtcjloeeomhiblaaDoorW.PrintLast Go.Proofs.YtcjloeeomhiblaaDoorW.PrintMore Go.Proofs.YtcjloeeomhiblaaDoor.E
attribute [local go_sem] max2_int min2_int max_two min_two max_three min_three max_four min_four   -- for this text's walks alone
set_option linter.unusedVariables false
set_option linter.unusedSimpArgs false
attribute [-simp] ByteArray.size_append ByteArray.size_extract
attribute [-go_sem] ByteArray.size_append'

/-! ### strings_Split: function 13 -/
theorem reps_app {R : ByteArray → List Value → Prop} (hR : ∀ p, R p [Value.string p]) : ∀ (l acc : List ByteArray) (cs : List Value), Reps R 1 acc cs → Reps R 1 (acc ++ l) (cs ++ l.map Value.string)
 | [], acc, cs, h => by rw [List.append_nil, List.map_nil, List.append_nil]; exact h
 | a :: l, acc, cs, h => by
  (have := reps_app hR l (acc ++ [a]) (cs ++ [Value.string a]) (h.snoc (hR a) rfl)); (rw [List.append_assoc, List.append_assoc] at this); (exact this)
theorem reps_map {R : ByteArray → List Value → Prop} (hR : ∀ p, R p [Value.string p]) (l : List ByteArray) : Reps R 1 l (l.map Value.string) := reps_app hR l [] [] (Reps.none _ _)
def strings_Split.f (a0 : ByteArray) (a1 : ByteArray) : Option (List ByteArray) := if (a0.size < 4294967281 ∧ 1 ≤ a1.size) ∧ Lib.countB a0 a1 ≤ 4294967281 then some (Lib.splitB a1 0 (Lib.countB a0 a1) a0) else none
theorem strings_Split.calls (a0 : ByteArray) (a1 : ByteArray) (r : List ByteArray) (w : World) (hG : GE w) (h : strings_Split.f a0 a1 = some r) :
  Calls Tryd.prog 13 #[.string a0, .string a1] w fun e w' => ∃ v0_ : Value, e = .returned (v0_) ∧ Kd.R Kd.string 9 w' w.heap.size (fun _ => True) v0_ r ∧ Below w.heap.size w w' := by
 (unfold strings_Split.f at h); (split at h)
 case isFalse => cases h
 (rename_i hz); (obtain rfl := Option.some.inj h); (obtain ⟨m, hm⟩ := hG.mx); (refine (Tryd.strings_Split a0 a1 m w hz.1.1 hm hz.1.2).mono ?_); (rintro e w' ⟨rfl, rfl⟩); (have hlen := Lib.splitB_all a1 hz.1.2 0 _ a0 rfl); (refine ⟨_, rfl, ⟨fun k hk => trivial, ?_⟩, below_alloc (Below.refl _ _) _⟩); (rw [← hlen]); (exact OwnRow.lit w _ (reps_map (R := Kd.string.M _ _ _) (fun p => rfl) _) (Nat.le_refl _) (by omega))

end Go.Proofs.YtcjloeeomhiblaaDoor.X
namespace Go.Proofs.YtcjloeeomhiblaaDoor.X
open Go.RowKit Go.Proofs.YtcjloeeomhiblaaDoorW.PrintWords Go.Proofs.YtcjloeeomhiblaaDoorW.PrintLast Go.Proofs.YtcjloeeomhiblaaDoorW.PrintMore
attribute [local go_sem] max2_int min2_int max_two min_two max_three min_three max_four min_four   -- for this text's walks alone
set_option linter.unusedVariables false
set_option linter.unusedSimpArgs false
attribute [-simp] ByteArray.size_append ByteArray.size_extract
attribute [-go_sem] ByteArray.size_append'

/-! ### impl_within: function 40 -/
def impl_within.f (a0 : Int) (a1 : Int) (a2 : Int) : Option (Bool) := if a0 ≥ a1 then (some (decide (a0 ≤ a2))) else (some false)
set_option maxHeartbeats 8000000 in
set_option maxRecDepth 100000 in
theorem impl_within.calls (a0 : Int) (a1 : Int) (a2 : Int) (r : Bool) (w : World) (h : impl_within.f a0 a1 a2 = some r) :
  Calls Tryd.prog 40 #[.int .i64 a0, .int .i64 a1, .int .i64 a2] w fun e w' => e = .returned (.bool r) ∧ Drawn0 w w' := by
 (unfold impl_within.f at h); (have H := h); clear h; (by_cases c4 : a0 ≥ a1); (· (rw [if_pos c4] at H); (have c4b0 : decide (a1 ≤ a0) = true := decide_eq_true c4); clear c4; (obtain rfl := Option.some.inj H); (go_enter Tryd.func40, Tryd.ntmps40); (go_wp2); go_ret; (exact ⟨by first | rfl | (simp; done) | (simp [*]; done), by repeat (first | exact Drawn0.refl _ | apply Drawn0.step)⟩)); (· (rw [if_neg c4] at H); (have c4b0 : decide (a1 ≤ a0) = false := decide_eq_false c4); clear c4; (obtain rfl := Option.some.inj H); (go_enter Tryd.func40, Tryd.ntmps40); (go_wp2); go_ret; (exact ⟨by first | rfl | (simp; done) | (simp [*]; done), by repeat (first | exact Drawn0.refl _ | apply Drawn0.step)⟩))

end Go.Proofs.YtcjloeeomhiblaaDoor.X
namespace Go.Proofs.YtcjloeeomhiblaaDoor.X
open Go.RowKit Go.Proofs.YtcjloeeomhiblaaDoorW.PrintWords Go.Proofs.YtcjloeeomhiblaaDoorW.PrintLast Go.Proofs.YtcjloeeomhiblaaDoorW.PrintMore Go.Proofs.YtcjloeeomhiblaaDoor.E
attribute [local go_sem] max2_int min2_int max_two min_two max_three min_three max_four min_four   -- for this text's walks alone
set_option linter.unusedVariables false
set_option linter.unusedSimpArgs false
attribute [-simp] ByteArray.size_append ByteArray.size_extract
attribute [-go_sem] ByteArray.size_append'

/-! ### strconv_Itoa: function 41 -/
def strconv_Itoa.f (a0 : Int) : Option ByteArray := if -9223372036854775808 ≤ a0 ∧ a0 ≤ 9223372036854775807 then some ⟨(Lib.itoa a0).toArray⟩ else none
theorem strconv_Itoa.calls (a0 : Int) (r : ByteArray) (w : World) (hG : GT w) (h : strconv_Itoa.f a0 = some r) :
  Calls Tryd.prog 41 #[.int .i64 a0] w fun e w' => e = .returned (.string r) ∧ Below w.heap.size w w' := by
 (unfold strconv_Itoa.f at h); (split at h); (· (rename_i hc); (cases h); (refine (Tryd.strconv_Itoa a0 hc.1 hc.2 w hG).mono ?_); (rintro e w' ⟨rfl, k, os, rfl⟩); (exact ⟨rfl, Lib.below_grow _ _ (Nat.le_refl _) _ _⟩)); (· (cases h))
/-! ### impl_ParseInt: function 24 -/
def parseE (s : ByteArray) : Int × Bool := match Lib.atoiAll s.data.toList with
 | .ok v => if (-999999 ≤ v ∧ v ≤ 999999) ∧ Lib.itoa v = s.data.toList then (v, true) else (0, false)
 | _ => (0, false)
def impl_ParseInt.f (a0 : ByteArray) : Option (Int × Bool) := if a0.size ≤ 281474976710656 then some (parseE a0) else none
theorem atoi_ok_below {s : ByteArray} {v : Int} (hz : s.size ≤ 281474976710656) (h : Lib.atoiAll s.data.toList = .ok v) (w : World) : Calls Tryd.prog 39 #[.string s] w fun e w' => e = .returned (.tuple #[.int .i64 v, .nilIface]) ∧ Below w.heap.size w w' := by
 (refine (Tryd.strconv_Atoi_ok s (by omega) v h w).mono ?_); (rintro e w' ⟨he, hw⟩); (refine ⟨he, ?_⟩); (rcases hw with rfl | ⟨t, rfl⟩); (· (exact Below.refl _ _)); (· (exact Joins.below_bytesWorld _ _ _ _ (Nat.le_refl _)))
theorem atoi_bad {s : ByteArray} (hz : s.size ≤ 281474976710656) (h : ∀ v, Lib.atoiAll s.data.toList ≠ .ok v) (w : World) (hE : GE w) : Calls Tryd.prog 39 #[.string s] w fun e w' => ∃ (n : Int) (t : TypeId) (v : Value), e = .returned (.tuple #[.int .i64 n, .iface t v]) ∧ Below w.heap.size w w' := by
 (obtain ⟨_, ⟨t1, p1, h1⟩, ⟨t2, p2, h2⟩, _⟩ := hE); (cases hc : Lib.atoiAll s.data.toList); (· (rename_i v; exact absurd hc (h v))); (· (exact (Any.strconv_Atoi_syntax Tryd.laysC172 s hz hc _ w h1 (Or.inr ⟨_, _, rfl⟩)).mono fun e w' ⟨N, he, _, _, hb⟩ => ⟨_, _, _, he, hb⟩)); (· (exact (Any.strconv_Atoi_range Tryd.laysC172 s hz hc _ w h2 (Or.inr ⟨_, _, rfl⟩)).mono fun e w' ⟨N, he, _, _, hb⟩ => ⟨_, _, _, he, hb⟩))
set_option maxHeartbeats 1000000 in
set_option maxRecDepth 100000 in
theorem impl_ParseInt.calls (a0 : ByteArray) (r1 : Int) (r2 : Bool) (w : World) (hG : GE w) (h : impl_ParseInt.f a0 = some (r1, r2)) :
  Calls Tryd.prog 24 #[.string a0] w fun e w' => e = .returned (.tuple #[.int .i64 r1, .bool r2]) ∧ Below w.heap.size w w' := by
 (unfold impl_ParseInt.f at h); (split at h)
 case isFalse => cases h
 (rename_i hz); (have HZ := Aside0.mk hz); clear hz; (have h := Option.some.inj h); (have HG := Aside0.mk hG); clear hG; (have HB := Aside0.mk (Below.refl w.heap.size w)); (by_cases hok : ∃ v, Lib.atoiAll a0.data.toList = .ok v)
 case neg =>
  have hbad : ∀ v, Lib.atoiAll a0.data.toList ≠ .ok v := fun v hv => hok ⟨v, hv⟩
  have hr : parseE a0 = (0, false) := by
   (unfold parseE); (split); (· (rename_i v hv; exact absurd hv (hbad v))); (· rfl)
  (rw [hr] at h); (injection h with h1 h2); (subst h1; subst h2); (have HBAD := Aside0.mk hbad); clear hr hbad hok; (go_enter Tryd.func24, Tryd.ntmps24); (go_wp2_with ((with_reducible refine gate_callee (f := 39) rfl ?_); refine gL (some 8) Tryd.func39 #[.string a0] ?_; (with_reducible refine (atoi_bad HZ.out HBAD.out _ HG.out).mono ?_); rintro e w1 ⟨n, t, v, rfl, hb⟩; refine ⟨_, rfl, ?_⟩; have n0_ := Aside0.mk (sI hb HB); clear HB hb; have HB := n0_; clear n0_)); (go_ret2); (exact ⟨rfl, eI HB⟩)
 (obtain ⟨v, hv⟩ := hok); (have hbd := Lib.atoiAll_bounds hv); (have hI : strconv_Itoa.f v = some ⟨(Lib.itoa v).toArray⟩ := by unfold strconv_Itoa.f; rw [if_pos hbd])
 have hW : impl_within.f v (-999999) 999999 = some (decide (-999999 ≤ v ∧ v ≤ 999999)) := by
  (unfold impl_within.f); (by_cases h1 : v ≥ -999999); (· (rw [if_pos h1]; congr 1; rw [decide_eq_decide]; omega)); (· (rw [if_neg h1, decide_eq_false (fun hh => h1 hh.1)]))
 (have HI := Aside0.mk hI); (have HV := Aside0.mk hv); (unfold parseE at h); (rw [hv] at h); (simp only at h); (by_cases c1 : -999999 ≤ v ∧ v ≤ 999999)
 case neg =>
  (rw [if_neg (fun hh => c1 hh.1)] at h); (injection h with h1 h2); (subst h1; subst h2); (rw [decide_eq_false c1] at hW); (have HWI := Aside0.mk hW); clear hv hI hW c1 hbd; (go_enter Tryd.func24, Tryd.ntmps24); (go_wp2_with (first | ((with_reducible refine gate_callee (f := 39) rfl ?_); refine gL (some 8) Tryd.func39 #[.string a0] ?_; (with_reducible refine (atoi_ok_below HZ.out HV.out _).mono ?_); rintro e w1 ⟨rfl, hb⟩; refine ⟨_, rfl, ?_⟩; have n0_ := Aside0.mk (sI hb HB); clear HB hb; have HB := n0_; clear n0_) | ((with_reducible refine gate_callee (f := 40) rfl ?_); refine gate_guard (by first | rfl | kernel_rfl) ?_; refine gL (some 15) Tryd.func40 #[.int .i64 v, .int .i64 (-999999), .int .i64 999999] ?_; (with_reducible refine (impl_within.calls _ _ _ _ _ HWI.out).mono ?_); rintro e w' ⟨rfl, ⟨nd, rfl⟩⟩; refine ⟨_, rfl, ?_⟩))); (go_ret2); (exact ⟨rfl, eI HB⟩)
 (rw [decide_eq_true c1] at hW); (have HWI := Aside0.mk hW); (by_cases c2 : Lib.itoa v = a0.data.toList); (· (rw [if_pos ⟨c1, c2⟩] at h); (injection h with h1 h2); (subst h1; subst h2); (have c3 : (⟨(Lib.itoa v).toArray⟩ : ByteArray) = a0 := by rw [c2]); (rw [c3] at hI); (have HI := Aside0.mk hI); clear hv hI hW c1 c2 c3 hbd; (go_enter Tryd.func24, Tryd.ntmps24); (go_wp2_with (first | ((with_reducible refine gate_callee (f := 39) rfl ?_); refine gL (some 8) Tryd.func39 #[.string a0] ?_; (with_reducible refine (atoi_ok_below HZ.out HV.out _).mono ?_); rintro e w1 ⟨rfl, hb⟩; refine ⟨_, rfl, ?_⟩; have n0_ := Aside0.mk (sI hb HB); clear HB hb; have HB := n0_; clear n0_) | ((with_reducible refine gate_callee (f := 40) rfl ?_); refine gate_guard (by first | rfl | kernel_rfl) ?_; refine gL (some 15) Tryd.func40 #[.int .i64 v, .int .i64 (-999999), .int .i64 999999] ?_; (with_reducible refine (impl_within.calls _ _ _ _ _ HWI.out).mono ?_); rintro e w' ⟨rfl, ⟨nd, rfl⟩⟩; refine ⟨_, rfl, ?_⟩) | ((with_reducible refine gate_callee (f := 41) rfl ?_); refine gate_guard (by first | rfl | kernel_rfl) ?_; refine gL (some 20) Tryd.func41 #[.int .i64 v] ?_; (with_reducible refine (strconv_Itoa.calls _ _ _ (GT.below HG.out.gt (eI HB)) HI.out).mono ?_); rintro e w2 ⟨rfl, hb⟩; refine ⟨_, rfl, ?_⟩; have n0_ := Aside0.mk (sI hb HB); clear HB hb; have HB := n0_; clear n0_))); (go_ret2); (exact ⟨rfl, eI HB⟩))
 ·rw [if_neg (fun hh => c2 hh.2)] at h
  (injection h with h1 h2); (subst h1; subst h2)
  have c3 : ((⟨(Lib.itoa v).toArray⟩ : ByteArray).toList != a0.toList) = true := by
   (rw [bne_iff_ne]); intro he; (rw [Lib.toList_data, Lib.toList_data] at he); (exact c2 (by simpa using he))
  have c4 : (Lib.itoa v == a0.toList) = false := by
   (rw [beq_eq_false_iff_ne]); intro he; (rw [Lib.toList_data] at he); (exact c2 he)
  clear hv hI hW c1 c2 hbd; (go_enter Tryd.func24, Tryd.ntmps24); (go_wp2_with (first | ((with_reducible refine gate_callee (f := 39) rfl ?_); refine gL (some 8) Tryd.func39 #[.string a0] ?_; (with_reducible refine (atoi_ok_below HZ.out HV.out _).mono ?_); rintro e w1 ⟨rfl, hb⟩; refine ⟨_, rfl, ?_⟩; have n0_ := Aside0.mk (sI hb HB); clear HB hb; have HB := n0_; clear n0_) | ((with_reducible refine gate_callee (f := 40) rfl ?_); refine gate_guard (by first | rfl | kernel_rfl) ?_; refine gL (some 15) Tryd.func40 #[.int .i64 v, .int .i64 (-999999), .int .i64 999999] ?_; (with_reducible refine (impl_within.calls _ _ _ _ _ HWI.out).mono ?_); rintro e w' ⟨rfl, ⟨nd, rfl⟩⟩; refine ⟨_, rfl, ?_⟩) | ((with_reducible refine gate_callee (f := 41) rfl ?_); refine gate_guard (by first | rfl | kernel_rfl) ?_; refine gL (some 20) Tryd.func41 #[.int .i64 v] ?_; (with_reducible refine (strconv_Itoa.calls _ _ _ (GT.below HG.out.gt (eI HB)) HI.out).mono ?_); rintro e w2 ⟨rfl, hb⟩; refine ⟨_, rfl, ?_⟩; have n0_ := Aside0.mk (sI hb HB); clear HB hb; have HB := n0_; clear n0_))); (go_ret2); (exact ⟨rfl, eI HB⟩)

end Go.Proofs.YtcjloeeomhiblaaDoor.X
namespace Go.Proofs.YtcjloeeomhiblaaDoor.X
open Go.RowKit Go.Proofs.YtcjloeeomhiblaaDoorW.PrintWords Go.Proofs.YtcjloeeomhiblaaDoorW.PrintLast Go.Proofs.YtcjloeeomhiblaaDoorW.PrintMore
attribute [local go_sem] max2_int min2_int max_two min_two max_three min_three max_four min_four   -- for this text's walks alone
set_option linter.unusedVariables false
set_option linter.unusedSimpArgs false
attribute [-simp] ByteArray.size_append ByteArray.size_extract
attribute [-go_sem] ByteArray.size_append'

/-! ### impl_fieldOfWords: function 14 -/
mutual
def impl_fieldOfWords.j3 : Nat → List ByteArray → ByteArray → Int → Int → Int → List ByteArray → Bool → ByteArray → Option (ByteArray × Int × Int × Int × List ByteArray × Bool × ByteArray × Bool)
 | 0, _, _, _, _, _, _, _, _ => none
 | k + 1, x6, x104000, x104001, x104002, x104003, x104004, x104005, x104006 => if (x6.length : Int) > 0 then (if 0 < (x6.length : Int) then (impl_fieldOfWords.j4 k x6 ((rdOf ByteArray.empty x6 0).toList == ([110, 101, 101, 100, 101, 100] : List UInt8)) x104000 x104001 x104002 x104003 x104004 x104005 x104006) else (none)) else (impl_fieldOfWords.j4 k x6 false x104000 x104001 x104002 x104003 x104004 x104005 x104006)
def impl_fieldOfWords.j4 : Nat → List ByteArray → Bool → ByteArray → Int → Int → Int → List ByteArray → Bool → ByteArray → Option (ByteArray × Int × Int × Int × List ByteArray × Bool × ByteArray × Bool)
 | 0, _, _, _, _, _, _, _, _, _ => none
 | k + 1, x6, x89, x104000, x104001, x104002, x104003, x104004, x104005, x104006 => if x89 = true then (if 1 ≤ (x6.length : Int) then ((some (x6.drop 1 : List ByteArray)).bind fun y133 => (if (y133.length : Int) = 2 then (if 1 < (y133.length : Int) then (some (x104000, x104001, x104002, x104003, x104004, true, rdOf ByteArray.empty y133 1, true)) else (none)) else (some (x104000, x104001, x104002, x104003, x104004, true, x104006, true)))) else (none)) else (if (x6.length : Int) = 2 then (if 1 < (x6.length : Int) then (some (x104000, x104001, x104002, x104003, x104004, x104005, rdOf ByteArray.empty x6 1, true)) else (none)) else (some (x104000, x104001, x104002, x104003, x104004, x104005, x104006, true)))
def impl_fieldOfWords.j0 : Nat → ByteArray → List ByteArray → ByteArray → Bool → ByteArray → Int → Int → Int → Bool → ByteArray → Option (ByteArray × Int × Int × Int × List ByteArray × Bool × ByteArray × Bool)
 | 0, _, _, _, _, _, _, _, _, _, _ => none
 | k + 1, x5, x6, x20, x21, x104000, x104001, x104002, x104003, x104005, x104006 => if x21 = true then (if x5.toList = ([116, 101, 120, 116] : List UInt8) then (impl_fieldOfWords.j1 k x6 x104000 2 x104002 x104003 x104005 x104006) else (impl_fieldOfWords.j1 k x6 x104000 1 x104002 x104003 x104005 x104006)) else (if x20.toList = ([99, 104, 111, 105, 99, 101] : List UInt8) then (impl_fieldOfWords.l0 k x6 x104000 3 x104002 x104003 ([] : List ByteArray) x104005 x104006) else (if x20.toList = ([102, 108, 97, 103] : List UInt8) then (impl_fieldOfWords.j3 k x6 x104000 4 x104002 x104003 ([] : List ByteArray) x104005 x104006) else (impl_fieldOfWords.j3 k x6 x104000 x104001 x104002 x104003 ([] : List ByteArray) x104005 x104006)))
def impl_fieldOfWords.j1 : Nat → List ByteArray → ByteArray → Int → Int → Int → Bool → ByteArray → Option (ByteArray × Int × Int × Int × List ByteArray × Bool × ByteArray × Bool)
 | 0, _, _, _, _, _, _, _ => none
 | k + 1, x6, x104000, x104001, x104002, x104003, x104005, x104006 => if (x6.length : Int) < 2 then (some ((⟨#[]⟩ : ByteArray), 0, 0, 0, ([] : List ByteArray), false, (⟨#[]⟩ : ByteArray), false)) else (if 0 < (x6.length : Int) then ((impl_ParseInt.f (rdOf ByteArray.empty x6 0)).bind fun bt111 => (if 1 < (x6.length : Int) then ((impl_ParseInt.f (rdOf ByteArray.empty x6 1)).bind fun bt114 => (if 2 ≤ (x6.length : Int) then (impl_fieldOfWords.j3 k (x6.drop 2) x104000 x104001 bt111.1 bt114.1 ([] : List ByteArray) x104005 x104006) else (none))) else (none))) else (none))
def impl_fieldOfWords.l0 : Nat → List ByteArray → ByteArray → Int → Int → Int → List ByteArray → Bool → ByteArray → Option (ByteArray × Int × Int × Int × List ByteArray × Bool × ByteArray × Bool)
 | 0, _, _, _, _, _, _, _, _ => none
 | k + 1, x6, x104000, x104001, x104002, x104003, x104004, x104005, x104006 => if (x6.length : Int) > 0 then (if 0 < (x6.length : Int) then (if (rdOf ByteArray.empty x6 0).toList = ([110, 101, 101, 100, 101, 100] : List UInt8) then (impl_fieldOfWords.j3 k x6 x104000 x104001 x104002 x104003 x104004 x104005 x104006) else (if (rdOf ByteArray.empty x6 0).toList = ([105, 102] : List UInt8) then (impl_fieldOfWords.j3 k x6 x104000 x104001 x104002 x104003 x104004 x104005 x104006) else (if x104004.length < 8796093022208 then (if 1 ≤ (x6.length : Int) then (impl_fieldOfWords.l0 k (x6.drop 1) x104000 x104001 x104002 x104003 (x104004 ++ [rdOf ByteArray.empty x6 0]) x104005 x104006) else (none)) else (none)))) else (none)) else (impl_fieldOfWords.j3 k x6 x104000 x104001 x104002 x104003 x104004 x104005 x104006)
end
def impl_fieldOfWords.f (k : Nat) (l0 : List ByteArray) : Option (ByteArray × Int × Int × Int × List ByteArray × Bool × ByteArray × Bool) := if (l0.length : Int) < 2 then (some ((⟨#[]⟩ : ByteArray), 0, 0, 0, ([] : List ByteArray), false, (⟨#[]⟩ : ByteArray), false)) else (if 0 < (l0.length : Int) then (if 1 < (l0.length : Int) then (if 2 ≤ (l0.length : Int) then ((some (l0.drop 2 : List ByteArray)).bind fun y105 => (if (rdOf ByteArray.empty l0 1).toList = ([110, 117, 109, 98, 101, 114] : List UInt8) then (impl_fieldOfWords.j0 k (rdOf ByteArray.empty l0 1) y105 (rdOf ByteArray.empty l0 1) ((rdOf ByteArray.empty l0 1).toList == ([110, 117, 109, 98, 101, 114] : List UInt8)) (rdOf ByteArray.empty l0 0) 0 0 0 false (⟨#[]⟩ : ByteArray)) else (impl_fieldOfWords.j0 k (rdOf ByteArray.empty l0 1) y105 (rdOf ByteArray.empty l0 1) ((rdOf ByteArray.empty l0 1).toList == ([116, 101, 120, 116] : List UInt8)) (rdOf ByteArray.empty l0 0) 0 0 0 false (⟨#[]⟩ : ByteArray)))) else (none)) else (none)) else (none))
def impl_fieldOfWords.T19 : Bool × List (List Nat × List Nat) := (true, [([], []), ([0], [0]), ([], []), ([2], [2]), ([3], [3]), ([4], [4]), ([1, 5], [1, 5]), ([0, 1, 2, 3, 4, 5, 6], []), ([7, 6, 6, 0, 1, 2, 3, 4, 5, 6], [6, 7])])
def impl_fieldOfWords.B19 : List Nat := [0, 1, 0, 4, 12, 28, 63, 127, 255]
theorem impl_fieldOfWords.tab19 : rtab .any (opsOf Tryd.f14 19) = impl_fieldOfWords.T19 := by kernel_rfl
theorem impl_fieldOfWords.bits19 : waitsOk impl_fieldOfWords.T19.2 impl_fieldOfWords.B19 = true := by kernel_rfl
set_option maxHeartbeats 8000000 in
set_option maxRecDepth 100000 in
theorem impl_fieldOfWords.calls (k : Nat) (P0_ : Nat → Prop) (A0 : Option Addr) (c0 : Nat) (l0 : List ByteArray) (r1 : ByteArray) (r2 : Int) (r3 : Int) (r4 : Int) (r5 : List ByteArray) (r6 : Bool) (r7 : ByteArray) (r8 : Bool) (w : World) (hs0 : Kd.V Kd.string 9 w w.heap.size (fun k_ => P0_ k_) (.slice A0 l0.length c0) l0) (hG : GE w) (h : impl_fieldOfWords.f k l0 = some (r1, r2, r3, r4, r5, r6, r7, r8)) :
  Calls Tryd.prog 14 #[.slice A0 l0.length c0] w fun e w' => ∃ v4_ : Value, e = .returned (.tuple #[.agg #[.string r1, .int .i64 r2, .int .i64 r3, .int .i64 r4, v4_, .bool r6, .string r7], .bool r8]) ∧ Kd.R Kd.string 9 w' w.heap.size (fun k_ => (w.heap.size ≤ k_)) v4_ r5 ∧ Below w.heap.size w w' := by
 (have hu31 := Tryd.underlying31); (have HO0 := Aside0.mk (show Kd.V Kd.string 9 w w.heap.size (fun k_ => (P0_ k_ ∨ w.heap.size ≤ k_)) (.slice A0 l0.length c0) l0 from Kd.V_mono hs0 (fun k_ hk => .inl hk))); (have HG := Aside0.mk hG); clear hG; (have HB := Aside0.mk (Below.refl w.heap.size w)); (have H : (if (l0.length : Int) < 2 then (some ((⟨#[]⟩ : ByteArray), 0, 0, 0, ([] : List ByteArray), false, (⟨#[]⟩ : ByteArray), false)) else (if 0 < (l0.length : Int) then (if 1 < (l0.length : Int) then (if 2 ≤ (l0.length : Int) then ((some (l0.drop 2 : List ByteArray)).bind fun y105 => (if (rdOf ByteArray.empty l0 1).toList = ([110, 117, 109, 98, 101, 114] : List UInt8) then (impl_fieldOfWords.j0 k (rdOf ByteArray.empty l0 1) y105 (rdOf ByteArray.empty l0 1) ((rdOf ByteArray.empty l0 1).toList == ([110, 117, 109, 98, 101, 114] : List UInt8)) (rdOf ByteArray.empty l0 0) 0 0 0 false (⟨#[]⟩ : ByteArray)) else (impl_fieldOfWords.j0 k (rdOf ByteArray.empty l0 1) y105 (rdOf ByteArray.empty l0 1) ((rdOf ByteArray.empty l0 1).toList == ([116, 101, 120, 116] : List UInt8)) (rdOf ByteArray.empty l0 0) 0 0 0 false (⟨#[]⟩ : ByteArray)))) else (none)) else (none)) else (none))) = some (r1, r2, r3, r4, r5, r6, r7, r8) := h); clear h; (by_cases c2 : (l0.length : Int) < 2); (· (rw [if_pos c2] at H); (have c2b0 : decide ((l0.length : Int) < 2) = true := decide_eq_true c2); (have c2b1 : decide (l0.length < 2) = true := decide_eq_true (by omega)); clear c2; (simp only [Option.some.injEq, Prod.mk.injEq] at H); (obtain ⟨rfl, rfl, rfl, rfl, rfl, rfl, rfl, rfl⟩ := H); (go_enter Tryd.func14, Tryd.ntmps14); (go_wp2_with (first | ((with_reducible refine gate_dst (N := 2) rfl ?_); refine box_event ?hg (N := 2) ?hd (cs := #[.string (⟨#[]⟩ : ByteArray), .int .i64 0, .int .i64 0, .int .i64 0, .slice none 0 0, .bool false, .string (⟨#[]⟩ : ByteArray)]) (t := 31) ?hr ?_; (case hd => rfl); (case hg => rfl); (case hr => first | (go_simp; done) | (go_simp; rfl)); intro gb101 hg w3 hbox hb; have n0_ := Aside0.mk (Kd.V_below (Kd.V_elderB (by (with_reducible repeat (first | apply Kd.V_alloc | apply Kd.V_drewN | apply Kd.V_drew)); exact HO0.out) gb101 (Nat.le_of_eq hg.symm)) hb); have hB_ := bz (by repeat (first | (with_reducible first | exact HB.out | apply bA | apply bN | apply bD) | exact HB.out)) hb; have n1_ := Aside0.mk (below_step hB_ hb); have n2_ := Aside0.mk (hbox); have n3_ := Aside0.mk ((by rw [hg]; exact (below_size hB_) : w.heap.size ≤ gb101)); have n4_ := n3_; clear HO0 HB; have HO0 := n0_; have HB := n1_; have BK101 := n2_; have GW101 := n3_; have GE101 := n4_; clear n0_ n1_ n2_ n3_ n4_ hB_ hb hbox hg; have hcz4_0 := cz BK101.out 0; have hcz4_1 := cz BK101.out 1; have hcz4_2 := cz BK101.out 2; have hcz4_3 := cz BK101.out 3; have hcz4_4 := cz BK101.out 4; have hcz4_5 := cz BK101.out 5; have hcz4_6 := cz BK101.out 6; have hfz4_0 := blk_frozen BK101.out 0; have hfz4_1 := blk_frozen BK101.out 1; have hfz4_2 := blk_frozen BK101.out 2; have hfz4_3 := blk_frozen BK101.out 3; have hfz4_4 := blk_frozen BK101.out 4; have hfz4_5 := blk_frozen BK101.out 5; have hfz4_6 := blk_frozen BK101.out 6))); (refine bodyPost_ret (results_ct rfl _ _ gb101 31 #[.string (⟨#[]⟩ : ByteArray), .int .i64 0, .int .i64 0, .int .i64 0, .slice none 0 0, .bool false, .string (⟨#[]⟩ : ByteArray)] (0, 0) _ rfl (by (with_reducible repeat (first | refine kN ?_ _ | refine kD ?_ | refine kA ?_ _)); refine blk_put (cs := #[.string (⟨#[]⟩ : ByteArray), .int .i64 0, .int .i64 0, .int .i64 0, .slice none 0 0, .bool false, .string (⟨#[]⟩ : ByteArray)]) ?_ 6 _ rfl; (with_reducible repeat (first | refine kN ?_ _ | refine kD ?_ | refine kA ?_ _)); refine blk_put (cs := #[.string (⟨#[]⟩ : ByteArray), .int .i64 0, .int .i64 0, .int .i64 0, .slice none 0 0, .bool false, .string (⟨#[]⟩ : ByteArray)]) ?_ 5 _ rfl; (with_reducible repeat (first | refine kN ?_ _ | refine kD ?_ | refine kA ?_ _)); refine blk_put (cs := #[.string (⟨#[]⟩ : ByteArray), .int .i64 0, .int .i64 0, .int .i64 0, .slice none 0 0, .bool false, .string (⟨#[]⟩ : ByteArray)]) ?_ 4 _ rfl; (with_reducible repeat (first | refine kN ?_ _ | refine kD ?_ | refine kA ?_ _)); refine blk_put (cs := #[.string (⟨#[]⟩ : ByteArray), .int .i64 0, .int .i64 0, .int .i64 0, .slice none 0 0, .bool false, .string (⟨#[]⟩ : ByteArray)]) ?_ 3 _ rfl; (with_reducible repeat (first | refine kN ?_ _ | refine kD ?_ | refine kA ?_ _)); refine blk_put (cs := #[.string (⟨#[]⟩ : ByteArray), .int .i64 0, .int .i64 0, .int .i64 0, .slice none 0 0, .bool false, .string (⟨#[]⟩ : ByteArray)]) ?_ 2 _ rfl; (with_reducible repeat (first | refine kN ?_ _ | refine kD ?_ | refine kA ?_ _)); refine blk_put (cs := #[.string (⟨#[]⟩ : ByteArray), .int .i64 0, .int .i64 0, .int .i64 0, .slice none 0 0, .bool false, .string (⟨#[]⟩ : ByteArray)]) ?_ 1 _ rfl; (with_reducible repeat (first | refine kN ?_ _ | refine kD ?_ | refine kA ?_ _)); refine blk_put (cs := #[.string (⟨#[]⟩ : ByteArray), .int .i64 0, .int .i64 0, .int .i64 0, .slice none 0 0, .bool false, .string (⟨#[]⟩ : ByteArray)]) ?_ 0 _ rfl; (with_reducible repeat (first | refine kN ?_ _ | refine kD ?_ | refine kA ?_ _)); exact BK101.out) Tryd.underlying31 rfl (by kernel_rfl)) rfl ?_); (exact ⟨_, by first | rfl | (simp [errW_none, errW_some] <;> rfl) | (simp [*, errW_none, errW_some] <;> rfl), by first | exact Kd.R_nil _ _ _ _ _ | exact Kd.N_nil _ _ _ _ _ | exact Kd.V_nil _ _ _ _ _ | exact Kd.Q_nil _ _ _ _ _ | exact Kd.S_nil _ _ _ _ _, by repeat (first | (with_reducible first | exact HB.out | apply bA | apply bN | apply bD | refine below_set ?_ GE101.out) | exact HB.out)⟩))
 ·rw [if_neg c2] at H
  (have c2b0 : decide ((l0.length : Int) < 2) = false := decide_eq_false c2); (have c2b1 : decide (l0.length < 2) = false := decide_eq_false (by omega)); clear c2; (by_cases c5 : 0 < (l0.length : Int))
  ·rw [if_pos c5] at H
   (have c5b0 : decide (0 < (l0.length : Int)) = true := decide_eq_true c5); (have c5b1 : decide (0 < l0.length) = true := decide_eq_true (by omega)); clear c5; (by_cases c6 : 1 < (l0.length : Int))
   ·rw [if_pos c6] at H
    (have c6b0 : decide (1 < (l0.length : Int)) = true := decide_eq_true c6); (have c6b1 : decide (1 < l0.length) = true := decide_eq_true (by omega)); clear c6; (by_cases c7 : 2 ≤ (l0.length : Int))
    ·rw [if_pos c7] at H
     (have c7b0 := eq_true c7); (have c7b1 : decide (2 ≤ (l0.length : Int)) = true := decide_eq_true c7); clear c7; (obtain ⟨y105, hy105⟩ : ∃ y_ : List ByteArray, y_ = (l0.drop 2) := ⟨_, rfl⟩); (replace H : (if (rdOf ByteArray.empty l0 1).toList = ([110, 117, 109, 98, 101, 114] : List UInt8) then (impl_fieldOfWords.j0 k (rdOf ByteArray.empty l0 1) y105 (rdOf ByteArray.empty l0 1) ((rdOf ByteArray.empty l0 1).toList == ([110, 117, 109, 98, 101, 114] : List UInt8)) (rdOf ByteArray.empty l0 0) 0 0 0 false (⟨#[]⟩ : ByteArray)) else (impl_fieldOfWords.j0 k (rdOf ByteArray.empty l0 1) y105 (rdOf ByteArray.empty l0 1) ((rdOf ByteArray.empty l0 1).toList == ([116, 101, 120, 116] : List UInt8)) (rdOf ByteArray.empty l0 0) 0 0 0 false (⟨#[]⟩ : ByteArray))) = some (r1, r2, r3, r4, r5, r6, r7, r8) := by first | (rw [hy105]; with_reducible exact H) | (have H2_ := (Option.bind_some _ _).symm.trans H; rw [hy105]; with_reducible exact H2_) | (have H2_ := (Option.bind_some _ _).symm.trans H; with_reducible exact H2_) | with_reducible exact H | (rw [hy105]; exact H) | exact H); (have Ny105 := Aside0.mk hy105); clear hy105; (have HC8 := Aside0.mk H); clear H; (go_enter Tryd.func14, Tryd.ntmps14); (try go_wp2_with (first | ((with_reducible refine gate_dst (N := 2) rfl ?_); refine box_event ?hg (N := 2) ?hd (cs := #[.string (⟨#[]⟩ : ByteArray), .int .i64 0, .int .i64 0, .int .i64 0, .slice none 0 0, .bool false, .string (⟨#[]⟩ : ByteArray)]) (t := 31) ?hr ?_; (case hd => rfl); (case hg => rfl); (case hr => first | (go_simp; done) | (go_simp; rfl)); intro gb101 hg w9 hbox hb; have n0_ := Aside0.mk (Kd.V_below (Kd.V_elderB (by (with_reducible repeat (first | apply Kd.V_alloc | apply Kd.V_drewN | apply Kd.V_drew)); exact HO0.out) gb101 (Nat.le_of_eq hg.symm)) hb); have hB_ := bz (by repeat (first | (with_reducible first | exact HB.out | apply bA | apply bN | apply bD) | exact HB.out)) hb; have n1_ := Aside0.mk (below_step hB_ hb); have n2_ := Aside0.mk (hbox); have n3_ := Aside0.mk ((by rw [hg]; exact (below_size hB_) : w.heap.size ≤ gb101)); have n4_ := n3_; clear HO0 HB; have HO0 := n0_; have HB := n1_; have BK101 := n2_; have GW101 := n3_; have GE101 := n4_; clear n0_ n1_ n2_ n3_ n4_ hB_ hb hbox hg; have p102 : 0 ≤ (0 : Int) := (by omega); have q102 : 0 < (l0.length : Int) := of_decide_eq_true (by first | (with_reducible assumption) | assumption); obtain ⟨ad102, e102, hx102_0⟩ := Kd.at_string (Kd.V_reads' HO0.out).2.2 0 p102 q102; cases e102; have qi102 : (0 < l0.length) = True := eq_true (by omega); (try rw [show ((0 : Int)).toNat = 0 from rfl] at hx102_0); (try rw [Addr.add_zero'] at hx102_0); replace p102 := eq_true p102; replace q102 := eq_true q102) | ((with_reducible refine gate_dst (N := 4) rfl ?_); refine box_event ?hg (N := 4) ?hd (cs := #[.string (⟨#[]⟩ : ByteArray), .int .i64 0, .int .i64 0, .int .i64 0, .slice none 0 0, .bool false, .string (⟨#[]⟩ : ByteArray)]) (t := 31) ?hr ?_; (case hd => rfl); (case hg => rfl); (case hr => first | (go_simp; done) | (go_simp; rfl)); intro gb103 hg w10 hbox hb; have n0_ := Aside0.mk (Kd.V_below (Kd.V_elderB (by (with_reducible repeat (first | apply Kd.V_alloc | apply Kd.V_drewN | apply Kd.V_drew)); exact HO0.out) gb103 (Nat.le_of_eq hg.symm)) hb); have n1_ := Aside0.mk (blk_below (by (with_reducible repeat (first | refine kN ?_ _ | refine kD ?_ | refine kA ?_ _)); exact BK101.out) hb); have hB_ := bz (by repeat (first | (with_reducible first | exact HB.out | apply bA | apply bN | apply bD | refine below_set ?_ GE101.out) | exact HB.out)) hb; have n2_ := Aside0.mk (below_step hB_ hb); have n3_ := Aside0.mk (hbox); have n4_ := Aside0.mk ((by rw [hg]; exact (below_size hB_) : w.heap.size ≤ gb103)); have n5_ := n4_; have n6_ := Aside0.mk ((by rw [hg]; exact Nat.ne_of_lt (blk_lt (by (with_reducible repeat (first | refine kN ?_ _ | refine kD ?_ | refine kA ?_ _)); exact BK101.out)) : gb101 ≠ gb103)); have n7_ := Aside0.mk (Ne.symm n6_.out); clear HO0 BK101 HB; have HO0 := n0_; have BK101 := n1_; have HB := n2_; have BK103 := n3_; have GW103 := n4_; have GE103 := n5_; have NB101_103 := n6_; have NB103_101 := n7_; clear n0_ n1_ n2_ n3_ n4_ n5_ n6_ n7_ hB_ hb hbox hg; have hnb11 := NB103_101.out; have hnc11 := NB101_103.out; have hcz12_0 := cz BK103.out 0; have hcz12_1 := cz BK103.out 1; have hcz12_2 := cz BK103.out 2; have hcz12_3 := cz BK103.out 3; have hcz12_4 := cz BK103.out 4; have hcz12_5 := cz BK103.out 5; have hcz12_6 := cz BK103.out 6; have hfz12_0 := blk_frozen BK103.out 0; have hfz12_1 := blk_frozen BK103.out 1; have hfz12_2 := blk_frozen BK103.out 2; have hfz12_3 := blk_frozen BK103.out 3; have hfz12_4 := blk_frozen BK103.out 4; have hfz12_5 := blk_frozen BK103.out 5; have hfz12_6 := blk_frozen BK103.out 6)))
     (have n0_ : Aside0 (Kd.V Kd.string 9 (((((((w10.setCell ⟨gb103, 0, none⟩ (.string (rdOf ByteArray.empty l0 0))).setCell ⟨gb103, 1, none⟩ (.int .i64 0)).setCell ⟨gb103, 2, none⟩ (.int .i64 0)).setCell ⟨gb103, 3, none⟩ (.int .i64 0)).setCell ⟨gb103, 4, none⟩ (.slice none 0 0)).setCell ⟨gb103, 5, none⟩ (.bool false)).setCell ⟨gb103, 6, none⟩ (.string (⟨#[]⟩ : ByteArray))) w.heap.size (fun k_ => (P0_ k_ ∨ w.heap.size ≤ k_) ∧ k_ ≠ gb101 ∧ k_ ≠ gb103) (.slice (some ad102) l0.length c0) l0) := ⟨by (with_reducible repeat (first | apply Kd.V_alloc | apply Kd.V_drewN | apply Kd.V_drew)); exact Kd.V_mono (Kd.V_far (p := ⟨gb103, 6, none⟩) (Kd.V_far (p := ⟨gb103, 5, none⟩) (Kd.V_far (p := ⟨gb103, 4, none⟩) (Kd.V_far (p := ⟨gb103, 3, none⟩) (Kd.V_far (p := ⟨gb103, 2, none⟩) (Kd.V_far (p := ⟨gb103, 1, none⟩) (Kd.V_far (p := ⟨gb103, 0, none⟩) (Kd.V_mono HO0.out (fun k_ hk => (⟨hk, hk.2⟩ : _ ∧ k_ ≠ gb103))) (fun _ hk => hk.2) (.string (rdOf ByteArray.empty l0 0))) (fun _ hk => hk.2) (.int .i64 0)) (fun _ hk => hk.2) (.int .i64 0)) (fun _ hk => hk.2) (.int .i64 0)) (fun _ hk => hk.2) (.slice none 0 0)) (fun _ hk => hk.2) (.bool false)) (fun _ hk => hk.2) (.string (⟨#[]⟩ : ByteArray))) (fun _ hk => ⟨hk.1.1.1, ⟨hk.1.1.2, hk.1.2⟩⟩)⟩); (have n1_ : Aside0 ((((((((w10.setCell ⟨gb103, 0, none⟩ (.string (rdOf ByteArray.empty l0 0))).setCell ⟨gb103, 1, none⟩ (.int .i64 0)).setCell ⟨gb103, 2, none⟩ (.int .i64 0)).setCell ⟨gb103, 3, none⟩ (.int .i64 0)).setCell ⟨gb103, 4, none⟩ (.slice none 0 0)).setCell ⟨gb103, 5, none⟩ (.bool false)).setCell ⟨gb103, 6, none⟩ (.string (⟨#[]⟩ : ByteArray))).heap[gb101]? = some (.cells #[.string (⟨#[]⟩ : ByteArray), .int .i64 0, .int .i64 0, .int .i64 0, .slice none 0 0, .bool false, .string (⟨#[]⟩ : ByteArray)] 31 (0, 0))) := ⟨by (with_reducible repeat (first | refine kN ?_ _ | refine kD ?_ | refine kA ?_ _)); refine blk_far ?_ NB101_103.out _; (with_reducible repeat (first | refine kN ?_ _ | refine kD ?_ | refine kA ?_ _)); refine blk_far ?_ NB101_103.out _; (with_reducible repeat (first | refine kN ?_ _ | refine kD ?_ | refine kA ?_ _)); refine blk_far ?_ NB101_103.out _; (with_reducible repeat (first | refine kN ?_ _ | refine kD ?_ | refine kA ?_ _)); refine blk_far ?_ NB101_103.out _; (with_reducible repeat (first | refine kN ?_ _ | refine kD ?_ | refine kA ?_ _)); refine blk_far ?_ NB101_103.out _; (with_reducible repeat (first | refine kN ?_ _ | refine kD ?_ | refine kA ?_ _)); refine blk_far ?_ NB101_103.out _; (with_reducible repeat (first | refine kN ?_ _ | refine kD ?_ | refine kA ?_ _)); refine blk_far ?_ NB101_103.out _; (with_reducible repeat (first | refine kN ?_ _ | refine kD ?_ | refine kA ?_ _)); exact BK101.out⟩); (have n2_ : Aside0 ((((((((w10.setCell ⟨gb103, 0, none⟩ (.string (rdOf ByteArray.empty l0 0))).setCell ⟨gb103, 1, none⟩ (.int .i64 0)).setCell ⟨gb103, 2, none⟩ (.int .i64 0)).setCell ⟨gb103, 3, none⟩ (.int .i64 0)).setCell ⟨gb103, 4, none⟩ (.slice none 0 0)).setCell ⟨gb103, 5, none⟩ (.bool false)).setCell ⟨gb103, 6, none⟩ (.string (⟨#[]⟩ : ByteArray))).heap[gb103]? = some (.cells #[.string (rdOf ByteArray.empty l0 0), .int .i64 0, .int .i64 0, .int .i64 0, .slice none 0 0, .bool false, .string (⟨#[]⟩ : ByteArray)] 31 (0, 0))) := ⟨by (with_reducible repeat (first | refine kN ?_ _ | refine kD ?_ | refine kA ?_ _)); refine blk_put (cs := #[.string (rdOf ByteArray.empty l0 0), .int .i64 0, .int .i64 0, .int .i64 0, .slice none 0 0, .bool false, .string (⟨#[]⟩ : ByteArray)]) ?_ 6 _ rfl; (with_reducible repeat (first | refine kN ?_ _ | refine kD ?_ | refine kA ?_ _)); refine blk_put (cs := #[.string (rdOf ByteArray.empty l0 0), .int .i64 0, .int .i64 0, .int .i64 0, .slice none 0 0, .bool false, .string (⟨#[]⟩ : ByteArray)]) ?_ 5 _ rfl; (with_reducible repeat (first | refine kN ?_ _ | refine kD ?_ | refine kA ?_ _)); refine blk_put (cs := #[.string (rdOf ByteArray.empty l0 0), .int .i64 0, .int .i64 0, .int .i64 0, .slice none 0 0, .bool false, .string (⟨#[]⟩ : ByteArray)]) ?_ 4 _ rfl; (with_reducible repeat (first | refine kN ?_ _ | refine kD ?_ | refine kA ?_ _)); refine blk_put (cs := #[.string (rdOf ByteArray.empty l0 0), .int .i64 0, .int .i64 0, .int .i64 0, .slice none 0 0, .bool false, .string (⟨#[]⟩ : ByteArray)]) ?_ 3 _ rfl; (with_reducible repeat (first | refine kN ?_ _ | refine kD ?_ | refine kA ?_ _)); refine blk_put (cs := #[.string (rdOf ByteArray.empty l0 0), .int .i64 0, .int .i64 0, .int .i64 0, .slice none 0 0, .bool false, .string (⟨#[]⟩ : ByteArray)]) ?_ 2 _ rfl; (with_reducible repeat (first | refine kN ?_ _ | refine kD ?_ | refine kA ?_ _)); refine blk_put (cs := #[.string (rdOf ByteArray.empty l0 0), .int .i64 0, .int .i64 0, .int .i64 0, .slice none 0 0, .bool false, .string (⟨#[]⟩ : ByteArray)]) ?_ 1 _ rfl; (with_reducible repeat (first | refine kN ?_ _ | refine kD ?_ | refine kA ?_ _)); refine blk_put (cs := #[.string (⟨#[]⟩ : ByteArray), .int .i64 0, .int .i64 0, .int .i64 0, .slice none 0 0, .bool false, .string (⟨#[]⟩ : ByteArray)]) ?_ 0 _ rfl; (with_reducible repeat (first | refine kN ?_ _ | refine kD ?_ | refine kA ?_ _)); exact BK103.out⟩); (have n3_ : Aside0 (Below w.heap.size w (((((((w10.setCell ⟨gb103, 0, none⟩ (.string (rdOf ByteArray.empty l0 0))).setCell ⟨gb103, 1, none⟩ (.int .i64 0)).setCell ⟨gb103, 2, none⟩ (.int .i64 0)).setCell ⟨gb103, 3, none⟩ (.int .i64 0)).setCell ⟨gb103, 4, none⟩ (.slice none 0 0)).setCell ⟨gb103, 5, none⟩ (.bool false)).setCell ⟨gb103, 6, none⟩ (.string (⟨#[]⟩ : ByteArray)))) := ⟨by repeat (first | (with_reducible first | exact HB.out | apply bA | apply bN | apply bD | refine below_set ?_ GE101.out | refine below_set ?_ GE103.out) | exact HB.out)⟩)
     ((try clear HO0)); ((try clear BK101)); ((try clear BK103)); ((try clear HB)); (generalize (((((((w10.setCell ⟨gb103, 0, none⟩ (.string (rdOf ByteArray.empty l0 0))).setCell ⟨gb103, 1, none⟩ (.int .i64 0)).setCell ⟨gb103, 2, none⟩ (.int .i64 0)).setCell ⟨gb103, 3, none⟩ (.int .i64 0)).setCell ⟨gb103, 4, none⟩ (.slice none 0 0)).setCell ⟨gb103, 5, none⟩ (.bool false)).setCell ⟨gb103, 6, none⟩ (.string (⟨#[]⟩ : ByteArray))) = w13 at n0_ n1_ n2_ n3_ ⊢); (have HO0 := n0_); (have BK101 := n1_); (have BK103 := n2_); (have HB := n3_); clear n0_ n1_ n2_ n3_; (have n0_ := Aside0.mk (Kd.V_drew HO0.out)); (have n1_ := Aside0.mk (blk_drew BK101.out)); (have n2_ := Aside0.mk (blk_drew BK103.out)); (have n3_ := Aside0.mk (below_drew1 HB.out)); clear HO0 BK101 BK103 HB; (have HO0 := n0_); (have BK101 := n1_); (have BK103 := n2_); (have HB := n3_); clear n0_ n1_ n2_ n3_; (have p104 : 0 ≤ (1 : Int) := (by omega)); (have q104 : 1 < (l0.length : Int) := of_decide_eq_true (by first | (with_reducible assumption) | assumption)); (obtain ⟨ad104, e104, hx104_0⟩ := Kd.at_string (Kd.V_reads' HO0.out).2.2 1 p104 q104); (obtain rfl : ad102 = ad104 := (by injection e104)); ((try simp only [show (1 : Int).toNat = 1 from rfl, Nat.reduceMul, Nat.reduceEqDiff, Go.Addr.add, ↓reduceIte] at hx104_0)); (have qi104 : (1 < l0.length) = True := eq_true (by omega)); ((try rw [show ((1 : Int)).toNat = 1 from rfl] at hx104_0)); (replace p104 := eq_true p104); (replace q104 := eq_true q104); (have q15 : (2 : Int) ≤ ((l0.length : Int) : Int) := of_decide_eq_true (by first | (with_reducible assumption) | assumption)); (obtain ⟨i015, hi015, _, hsz15, _⟩ := info_parts info9); (have hroom15 : l0.length ≤ c0 := (Kd.V_reads' HO0.out).2.1); (have hC15 : Kd.F Kd.string _ _ (some ad102) l0.length l0 := (Kd.V_at (base := w.heap.size) HO0.out).2.2); (have hcut15 := cut_from (P := Tryd.prog) 28 9 .i64 Tryd.underlying28 hi015 1 hsz15 (some ad102) l0.length c0 2 (by omega) q15); (have hr15 := Kd.F_cut (m := (2 : Int).toNat) (c := c0) hC15 (by omega) hroom15); (obtain ⟨A15, hA15⟩ : ∃ A1, A1 = (if c0 = (2 : Int).toNat then (some ad102) else ((some ad102) : Option Addr).map (·.add ((2 : Int).toNat * 1))) := ⟨_, rfl⟩); (obtain ⟨c15, hc15⟩ : ∃ c1, c1 = c0 - (2 : Int).toNat := ⟨_, rfl⟩); (have hy15 : y105.length = l0.length - (2 : Int).toNat := (by rw [Ny105.out, List.length_drop] <;> omega)); (rw [show (l0).drop (2 : Int).toNat = y105 from Ny105.out.symm] at hr15); (replace hr15 : Kd.F Kd.string _ _ A15 y105.length y105 := (by rw [hA15]; exact hr15)); (rw [← hy15, ← hA15, ← hc15] at hcut15); (have HO109 := Aside0.mk (show Kd.V Kd.string 9 _ w.heap.size _ (.slice A15 y105.length c15) y105 from Kd.V_mk (by rw [hy15, hc15]; exact Nat.sub_le_sub_right hroom15 _) hr15)); (have HC109 := Aside0.mk (show y105.length ≤ c15 from by rw [hy15, hc15]; exact Nat.sub_le_sub_right hroom15 _)); clear hr15 hC15 hroom15 hi015 hsz15 hc15; (have KY15 := Aside0.mk hy15); (have KA15 := Aside0.mk hA15); clear hy15 hA15; (replace q15 := eq_true q15); (refine start_ (n := 7) (S := fun w' => w'.cell? ⟨ad102.block, ad102.off + 1, none⟩ = some (.string (rdOf ByteArray.empty l0 1))) (ds := []) (cn 7 0) (by kernel_rfl) rfl (by kernel_rfl) (hx104_0) (fun hHeld => ?_)); (generalize w13.drew = w14 at HO0 BK101 BK103 HB HO109 hx104_0 hHeld ⊢); (refine pure_ (i := 0) (N := some 15) (v := ?_) (a' := ?_) (cn 7 1) rfl rfl (by kernel_rfl) (fun _ _ _ h => h) (Or.inl ⟨by rfl, ?_⟩) ?_ ?_); rotate_left; (· intro w'; go_simp; with_reducible rfl); rotate_left; (· (simp only [Act.put, aS1, aS2, aS3, i64_w, i32_w]); rfl); (refine pure_ (i := 1) (N := some 16) (v := ?_) (a' := ?_) (cn 7 2) rfl rfl (by kernel_rfl) (fun _ _ _ h => h) (Or.inl ⟨by rfl, ?_⟩) ?_ ?_); rotate_left; (· intro w'; go_simp; with_reducible rfl); rotate_left; (· (simp only [Act.put, aS1, aS2, aS3, i64_w, i32_w]); rfl); (refine pure_ (i := 3) (N := some 18) (v := ?_) (a' := ?_) (cb 7 11) rfl rfl (by kernel_rfl) (fun _ _ _ h => h) (Or.inl ⟨by rfl, ?_⟩) ?_ ?_); rotate_left; (· intro w'; go_simp; with_reducible rfl); rotate_left; (· (simp only [Act.put, aS1, aS2, aS3, i64_w, i32_w]); rfl); (refine pure_ (i := 4) (N := some 19) (v := ?_) (a' := ?_) (cb 7 27) rfl rfl (by kernel_rfl) (fun _ _ _ h => h) (Or.inl ⟨by rfl, ?_⟩) ?_ ?_); rotate_left; (· intro w'; go_simp; with_reducible rfl); rotate_left; (· (simp only [Act.put, aS1, aS2, aS3, i64_w, i32_w]); rfl); (refine take_ (i := 2) (N := some 17) (v := ?_) (a' := ?_) (cn 7 5) rfl rfl (by kernel_rfl) (fun _ _ _ h => h) (Or.inl ⟨by rfl, ?_⟩) hHeld ?_ ?_); rotate_left; (· intro w' s0; go_simp; with_reducible rfl); rotate_left; (· (simp only [Act.put, aS1, aS2, aS3, i64_w, i32_w]); rfl); (refine pure_ (i := 5) (N := some 5) (v := ?_) (a' := ?_) (cn 7 6) rfl rfl (by kernel_rfl) (fun _ _ _ h => h) (Or.inl ⟨by rfl, ?_⟩) ?_ ?_); rotate_left; (· intro w'; go_simp; with_reducible rfl); rotate_left; (· (simp only [Act.put, aS1, aS2, aS3, i64_w, i32_w]); rfl); (refine pure_ (i := 6) (N := some 6) (v := ?_) (a' := ?_) (cn 7 7) rfl rfl (by kernel_rfl) (fun _ _ _ h => h) (Or.inl ⟨by rfl, ?_⟩) ?_ ?_); rotate_left; (· intro w'; go_simp; with_reducible rfl); rotate_left; (· (simp only [Act.put, aS1, aS2, aS3, i64_w, i32_w]); rfl); (refine done_ (by kernel_rfl) ?_); (go_upto_block 0 with (fail))
     go_cut [6] (fun v6 wc => ∃ (kq : Nat) (x6_7 : List ByteArray) (x102000_7 : ByteArray) (x102001_7 : Int) (x102002_7 : Int) (x102003_7 : Int) (x102005_7 : Bool) (x102006_7 : ByteArray) (x104001_7 : Int) (x104002_7 : Int) (x104003_7 : Int) (x104004_7 : List ByteArray) (u104004 : Value), Aside0 (impl_fieldOfWords.j3 kq x6_7 (rdOf ByteArray.empty l0 0) x104001_7 x104002_7 x104003_7 x104004_7 false (⟨#[]⟩ : ByteArray) = some (r1, r2, r3, r4, r5, r6, r7, r8)) ∧ Aside0 (kq ≤ k) ∧ Aside0 (Kd.V Kd.string 9 wc w.heap.size (fun k_ => (P0_ k_ ∨ w.heap.size ≤ k_) ∧ some k_ ≠ (u104004 : Value).ownBlock ∧ k_ ≠ gb101 ∧ k_ ≠ gb103) v6 x6_7) ∧ Aside0 (Kd.R Kd.string 9 wc w.heap.size (fun k_ => (w.heap.size ≤ k_)) u104004 x104004_7) ∧ Aside0 (wc.heap[gb101]? = some (.cells #[.string x102000_7, .int .i64 x102001_7, .int .i64 x102002_7, .int .i64 x102003_7, (.slice none 0 0), .bool x102005_7, .string x102006_7] 31 (0, 0))) ∧ Aside0 (wc.heap[gb103]? = some (.cells #[.string (rdOf ByteArray.empty l0 0), .int .i64 x104001_7, .int .i64 x104002_7, .int .i64 x104003_7, u104004, .bool false, .string (⟨#[]⟩ : ByteArray)] 31 (0, 0))) ∧ Aside0 (Below w.heap.size w wc))
     case first =>
      (have H := HC8.out); clear HC8; (have HC16 := Aside0.mk H); clear H; (go_upto_if 21 with (fail)); (go_cut [21] (fun v21 wc => ∃ (kq : Nat) (x21_15 : Bool), v21 = .bool x21_15 ∧ Aside0 (impl_fieldOfWords.j0 kq (rdOf ByteArray.empty l0 1) y105 (rdOf ByteArray.empty l0 1) x21_15 (rdOf ByteArray.empty l0 0) 0 0 0 false (⟨#[]⟩ : ByteArray) = some (r1, r2, r3, r4, r5, r6, r7, r8)) ∧ Aside0 (kq ≤ k) ∧ Aside0 (Kd.V Kd.string 9 wc w.heap.size (fun k_ => (P0_ k_ ∨ w.heap.size ≤ k_) ∧ k_ ≠ gb101 ∧ k_ ≠ gb103) (.slice A15 y105.length c15) y105) ∧ Aside0 (wc.heap[gb101]? = some (.cells #[.string (⟨#[]⟩ : ByteArray), .int .i64 0, .int .i64 0, .int .i64 0, (.slice none 0 0), .bool false, .string (⟨#[]⟩ : ByteArray)] 31 (0, 0))) ∧ Aside0 (wc.heap[gb103]? = some (.cells #[.string (rdOf ByteArray.empty l0 0), .int .i64 0, .int .i64 0, .int .i64 0, (.slice none 0 0), .bool false, .string (⟨#[]⟩ : ByteArray)] 31 (0, 0))) ∧ Aside0 (Below w.heap.size w wc)))
      case first =>
       (have H := HC16.out); clear HC16; (by_cases c17 : (rdOf ByteArray.empty l0 1).toList = ([110, 117, 109, 98, 101, 114] : List UInt8))
       ·rw [if_pos c17] at H
        (have c17b0 : ((rdOf ByteArray.empty l0 1).toList == ([110, 117, 109, 98, 101, 114] : List UInt8)) = true := beq_iff_eq.mpr c17); (have c17b1 : ((rdOf ByteArray.empty l0 1).toList != ([110, 117, 109, 98, 101, 114] : List UInt8)) = false := bne_eq_false_iff_eq.mpr c17); clear c17; ((first | rw [c17b0] | (simp only [i64_w, i32_w]; rw [c17b0]) | skip)); (have H' := Aside0.mk H); clear H; (go_wp2); (go_meet)
        case rel => exact ⟨_, (((rdOf ByteArray.empty l0 1).toList == ([110, 117, 109, 98, 101, 114] : List UInt8))), (by first | rfl | (simp; done) | (simp [*]; done)), H', ⟨by first | omega | exact Nat.le_refl _⟩, ⟨by (with_reducible repeat (first | apply Kd.V_alloc | apply Kd.V_drewN | apply Kd.V_drew)); exact HO109.out⟩, ⟨by (with_reducible repeat (first | refine kN ?_ _ | refine kD ?_ | refine kA ?_ _)); exact BK101.out⟩, ⟨by (with_reducible repeat (first | refine kN ?_ _ | refine kD ?_ | refine kA ?_ _)); exact BK103.out⟩, ⟨by repeat (first | (with_reducible first | exact HB.out | apply bA | apply bN | apply bD | refine below_set ?_ GE101.out | refine below_set ?_ GE103.out) | exact HB.out)⟩⟩
       ·rw [if_neg c17] at H
        (have c17b0 : ((rdOf ByteArray.empty l0 1).toList == ([110, 117, 109, 98, 101, 114] : List UInt8)) = false := beq_eq_false_iff_ne.mpr c17); (have c17b1 : ((rdOf ByteArray.empty l0 1).toList != ([110, 117, 109, 98, 101, 114] : List UInt8)) = true := bne_iff_ne.mpr c17); ((first | rw [c17b0] | (simp only [i64_w, i32_w]; rw [c17b0]) | skip)); (have H' := Aside0.mk H); clear H; (go_wp2); (go_meet)
        case rel => exact ⟨_, (((rdOf ByteArray.empty l0 1).toList == ([116, 101, 120, 116] : List UInt8))), (by first | rfl | (simp; done) | (simp [*]; done)), H', ⟨by first | omega | exact Nat.le_refl _⟩, ⟨by (with_reducible repeat (first | apply Kd.V_alloc | apply Kd.V_drewN | apply Kd.V_drew)); exact HO109.out⟩, ⟨by (with_reducible repeat (first | refine kN ?_ _ | refine kD ?_ | refine kA ?_ _)); exact BK101.out⟩, ⟨by (with_reducible repeat (first | refine kN ?_ _ | refine kD ?_ | refine kA ?_ _)); exact BK103.out⟩, ⟨by repeat (first | (with_reducible first | exact HB.out | apply bA | apply bN | apply bD | refine below_set ?_ GE101.out | refine below_set ?_ GE103.out) | exact HB.out)⟩⟩
      case rest =>
       clear HC16; (try clear c1); (try clear p1); (try clear q1); (try clear hx1); (try clear qi1); (try clear c2); (try clear c2b0); (try clear c2b1); (try clear p2); (try clear c5); (try clear c5b0); (try clear c5b1); (try clear c6); (try clear c6b0); (try clear c6b1); (try clear c7); (try clear c7b0); (try clear c7b1); (try clear p10); (try clear q10); (try clear hx10); (try clear qi10); (try clear c11); (try clear c14); (try clear c15); (try clear q15); (try clear c17); (try clear c17b0); (try clear c17b1); (try clear hcz12_0); (try clear hcz12_1); (try clear hcz12_2); (try clear hcz12_3); (try clear hcz12_4); (try clear hcz12_5); (try clear hcz12_6); (try clear hcz4_0); (try clear hcz4_1); (try clear hcz4_2); (try clear hcz4_3); (try clear hcz4_4); (try clear hcz4_5); (try clear hcz4_6); (try clear hfz12_0); (try clear hfz12_1); (try clear hfz12_2); (try clear hfz12_3); (try clear hfz12_4); (try clear hfz12_5); (try clear hfz12_6); (try clear hfz4_0); (try clear hfz4_1); (try clear hfz4_2); (try clear hfz4_3); (try clear hfz4_4); (try clear hfz4_5); (try clear hfz4_6); (try clear hx102_0); (try clear hx104_0); (try clear p102); (try clear p104); (try clear q102); (try clear q104); (try clear q15); (obtain ⟨kq, x21_15, rfl, HA, HJ15, HO_6, BK101, BK103, HB⟩ := hcut)
       cases kq with
       | zero => exact absurd HA.out (by simp [impl_fieldOfWords.j0])
       | succ kj15 =>
        (have H := HA.out); clear HA; (simp only [impl_fieldOfWords.j0] at H); (by_cases c18 : x21_15 = true)
        ·subst c18
         (rw [if_pos rfl] at H); (have HC19 := Aside0.mk H); clear H; (have hnb20 := NB103_101.out); (have hnc20 := NB101_103.out); (have hcz21_0 := cz BK103.out 0); (have hcz21_1 := cz BK103.out 1); (have hcz21_2 := cz BK103.out 2); (have hcz21_3 := cz BK103.out 3); (have hcz21_4 := cz BK103.out 4); (have hcz21_5 := cz BK103.out 5); (have hcz21_6 := cz BK103.out 6); (have hfz21_0 := blk_frozen BK103.out 0); (have hfz21_1 := blk_frozen BK103.out 1); (have hfz21_2 := blk_frozen BK103.out 2); (have hfz21_3 := blk_frozen BK103.out 3); (have hfz21_4 := blk_frozen BK103.out 4); (have hfz21_5 := blk_frozen BK103.out 5); (have hfz21_6 := blk_frozen BK103.out 6); (go_upto_if 26 with (fail)); (go_cut [] (fun wc => ∃ (kq : Nat) (x104001_18 : Int), Aside0 (impl_fieldOfWords.j1 kq y105 (rdOf ByteArray.empty l0 0) x104001_18 0 0 false (⟨#[]⟩ : ByteArray) = some (r1, r2, r3, r4, r5, r6, r7, r8)) ∧ Aside0 (kq ≤ kj15) ∧ Aside0 (Kd.V Kd.string 9 wc w.heap.size (fun k_ => (P0_ k_ ∨ w.heap.size ≤ k_) ∧ k_ ≠ gb101 ∧ k_ ≠ gb103) (.slice A15 y105.length c15) y105) ∧ Aside0 (wc.heap[gb101]? = some (.cells #[.string (⟨#[]⟩ : ByteArray), .int .i64 0, .int .i64 0, .int .i64 0, (.slice none 0 0), .bool false, .string (⟨#[]⟩ : ByteArray)] 31 (0, 0))) ∧ Aside0 (wc.heap[gb103]? = some (.cells #[.string (rdOf ByteArray.empty l0 0), .int .i64 x104001_18, .int .i64 0, .int .i64 0, (.slice none 0 0), .bool false, .string (⟨#[]⟩ : ByteArray)] 31 (0, 0))) ∧ Aside0 (Below w.heap.size w wc)))
         case first =>
          (have H := HC19.out); clear HC19; (by_cases c22 : (rdOf ByteArray.empty l0 1).toList = ([116, 101, 120, 116] : List UInt8))
          ·rw [if_pos c22] at H
           (have c22b0 : ((rdOf ByteArray.empty l0 1).toList == ([116, 101, 120, 116] : List UInt8)) = true := beq_iff_eq.mpr c22); (have c22b1 : ((rdOf ByteArray.empty l0 1).toList != ([116, 101, 120, 116] : List UInt8)) = false := bne_eq_false_iff_eq.mpr c22); clear c22; ((first | rw [c22b0] | (simp only [i64_w, i32_w]; rw [c22b0]) | skip)); (have H' := Aside0.mk H); clear H; (have hnb23 := NB103_101.out); (have hnc23 := NB101_103.out); (have hcz24_0 := cz BK103.out 0); (have hcz24_1 := cz BK103.out 1); (have hcz24_2 := cz BK103.out 2); (have hcz24_3 := cz BK103.out 3); (have hcz24_4 := cz BK103.out 4); (have hcz24_5 := cz BK103.out 5); (have hcz24_6 := cz BK103.out 6); (have hfz24_0 := blk_frozen BK103.out 0); (have hfz24_1 := blk_frozen BK103.out 1); (have hfz24_2 := blk_frozen BK103.out 2); (have hfz24_3 := blk_frozen BK103.out 3); (have hfz24_4 := blk_frozen BK103.out 4); (have hfz24_5 := blk_frozen BK103.out 5); (have hfz24_6 := blk_frozen BK103.out 6); (go_wp2); (go_meet)
           case rel => exact ⟨_, (2), H', ⟨by have := HJ15.out; first | omega | exact Nat.le_refl _⟩, ⟨by (with_reducible repeat (first | apply Kd.V_alloc | apply Kd.V_drewN | apply Kd.V_drew)); exact Kd.V_mono (Kd.V_far (p := ⟨gb103, 1, none⟩) (Kd.V_far (p := ⟨gb103, 1, none⟩) (Kd.V_mono HO_6.out (fun k_ hk => (⟨hk, hk.2.2⟩ : _ ∧ k_ ≠ gb103))) (fun _ hk => hk.2) (.int .i64 1)) (fun _ hk => hk.2) (.int .i64 2)) (fun _ hk => ⟨hk.1.1, ⟨hk.1.2.1, hk.1.2.2⟩⟩)⟩, ⟨by (with_reducible repeat (first | refine kN ?_ _ | refine kD ?_ | refine kA ?_ _)); refine blk_far ?_ NB101_103.out _; (with_reducible repeat (first | refine kN ?_ _ | refine kD ?_ | refine kA ?_ _)); refine blk_far ?_ NB101_103.out _; (with_reducible repeat (first | refine kN ?_ _ | refine kD ?_ | refine kA ?_ _)); exact BK101.out⟩, ⟨by (with_reducible repeat (first | refine kN ?_ _ | refine kD ?_ | refine kA ?_ _)); refine blk_put (cs := #[.string (rdOf ByteArray.empty l0 0), .int .i64 1, .int .i64 0, .int .i64 0, .slice none 0 0, .bool false, .string (⟨#[]⟩ : ByteArray)]) ?_ 1 _ rfl; (with_reducible repeat (first | refine kN ?_ _ | refine kD ?_ | refine kA ?_ _)); refine blk_put (cs := #[.string (rdOf ByteArray.empty l0 0), .int .i64 0, .int .i64 0, .int .i64 0, .slice none 0 0, .bool false, .string (⟨#[]⟩ : ByteArray)]) ?_ 1 _ rfl; (with_reducible repeat (first | refine kN ?_ _ | refine kD ?_ | refine kA ?_ _)); exact BK103.out⟩, ⟨by repeat (first | (with_reducible first | exact HB.out | apply bA | apply bN | apply bD | refine below_set ?_ GE101.out | refine below_set ?_ GE103.out) | exact HB.out)⟩⟩
          ·rw [if_neg c22] at H
           (have c22b0 : ((rdOf ByteArray.empty l0 1).toList == ([116, 101, 120, 116] : List UInt8)) = false := beq_eq_false_iff_ne.mpr c22); (have c22b1 : ((rdOf ByteArray.empty l0 1).toList != ([116, 101, 120, 116] : List UInt8)) = true := bne_iff_ne.mpr c22); ((first | rw [c22b0] | (simp only [i64_w, i32_w]; rw [c22b0]) | skip)); (have H' := Aside0.mk H); clear H; (go_wp2); (go_meet)
           case rel => exact ⟨_, (1), H', ⟨by have := HJ15.out; first | omega | exact Nat.le_refl _⟩, ⟨by (with_reducible repeat (first | apply Kd.V_alloc | apply Kd.V_drewN | apply Kd.V_drew)); exact Kd.V_mono (Kd.V_far (p := ⟨gb103, 1, none⟩) (Kd.V_mono HO_6.out (fun k_ hk => (⟨hk, hk.2.2⟩ : _ ∧ k_ ≠ gb103))) (fun _ hk => hk.2) (.int .i64 1)) (fun _ hk => ⟨hk.1.1, ⟨hk.1.2.1, hk.1.2.2⟩⟩)⟩, ⟨by (with_reducible repeat (first | refine kN ?_ _ | refine kD ?_ | refine kA ?_ _)); refine blk_far ?_ NB101_103.out _; (with_reducible repeat (first | refine kN ?_ _ | refine kD ?_ | refine kA ?_ _)); exact BK101.out⟩, ⟨by (with_reducible repeat (first | refine kN ?_ _ | refine kD ?_ | refine kA ?_ _)); refine blk_put (cs := #[.string (rdOf ByteArray.empty l0 0), .int .i64 0, .int .i64 0, .int .i64 0, .slice none 0 0, .bool false, .string (⟨#[]⟩ : ByteArray)]) ?_ 1 _ rfl; (with_reducible repeat (first | refine kN ?_ _ | refine kD ?_ | refine kA ?_ _)); exact BK103.out⟩, ⟨by repeat (first | (with_reducible first | exact HB.out | apply bA | apply bN | apply bD | refine below_set ?_ GE101.out | refine below_set ?_ GE103.out) | exact HB.out)⟩⟩
         case rest =>
          clear HC19; (try clear c1); (try clear p1); (try clear q1); (try clear hx1); (try clear qi1); (try clear c2); (try clear c2b0); (try clear c2b1); (try clear p2); (try clear c5); (try clear c5b0); (try clear c5b1); (try clear c6); (try clear c6b0); (try clear c6b1); (try clear c7); (try clear c7b0); (try clear c7b1); (try clear p10); (try clear q10); (try clear hx10); (try clear qi10); (try clear c11); (try clear c14); (try clear c15); (try clear q15); (try clear c17); (try clear c17b0); (try clear c17b1); (try clear c18); (try clear c20); (try clear c22); (try clear c22b0); (try clear c22b1); (try clear c23); (try clear hcz12_0); (try clear hcz12_1); (try clear hcz12_2); (try clear hcz12_3); (try clear hcz12_4); (try clear hcz12_5); (try clear hcz12_6); (try clear hcz21_0); (try clear hcz21_1); (try clear hcz21_2); (try clear hcz21_3); (try clear hcz21_4); (try clear hcz21_5); (try clear hcz21_6); (try clear hcz24_0); (try clear hcz24_1); (try clear hcz24_2); (try clear hcz24_3); (try clear hcz24_4); (try clear hcz24_5); (try clear hcz24_6); (try clear hcz4_0); (try clear hcz4_1); (try clear hcz4_2); (try clear hcz4_3); (try clear hcz4_4); (try clear hcz4_5); (try clear hcz4_6); (try clear hfz12_0); (try clear hfz12_1); (try clear hfz12_2); (try clear hfz12_3); (try clear hfz12_4); (try clear hfz12_5); (try clear hfz12_6); (try clear hfz21_0); (try clear hfz21_1); (try clear hfz21_2); (try clear hfz21_3); (try clear hfz21_4); (try clear hfz21_5); (try clear hfz21_6); (try clear hfz24_0); (try clear hfz24_1); (try clear hfz24_2); (try clear hfz24_3); (try clear hfz24_4); (try clear hfz24_5); (try clear hfz24_6); (try clear hfz4_0); (try clear hfz4_1); (try clear hfz4_2); (try clear hfz4_3); (try clear hfz4_4); (try clear hfz4_5); (try clear hfz4_6); (try clear hx102_0); (try clear hx104_0); (try clear p1); (try clear p10); (try clear p102); (try clear p104); (try clear p2); (try clear q1); (try clear q10); (try clear q102); (try clear q104); (try clear q15); (obtain ⟨kq, x104001_18, HA, HJ18, HO_6, BK101, BK103, HB⟩ := hcut)
          cases kq with
          | zero => exact absurd HA.out (by simp [impl_fieldOfWords.j1])
          | succ kj18 =>
           (have H := HA.out); clear HA; (simp only [impl_fieldOfWords.j1] at H); (by_cases c25 : (y105.length : Int) < 2)
           ·rw [if_pos c25] at H
            (have c25b0 : decide ((y105.length : Int) < 2) = true := decide_eq_true c25); (have c25b1 : decide (y105.length < 2) = true := decide_eq_true (by omega)); clear c25; (simp only [Option.some.injEq, Prod.mk.injEq] at H); (obtain ⟨rfl, rfl, rfl, rfl, rfl, rfl, rfl, rfl⟩ := H); (have hnb26 := NB101_103.out); (have hnc26 := NB103_101.out); (have hcz27_0 := cz BK101.out 0); (have hcz27_1 := cz BK101.out 1); (have hcz27_2 := cz BK101.out 2); (have hcz27_3 := cz BK101.out 3); (have hcz27_4 := cz BK101.out 4); (have hcz27_5 := cz BK101.out 5); (have hcz27_6 := cz BK101.out 6); (have hfz27_0 := blk_frozen BK101.out 0); (have hfz27_1 := blk_frozen BK101.out 1); (have hfz27_2 := blk_frozen BK101.out 2); (have hfz27_3 := blk_frozen BK101.out 3); (have hfz27_4 := blk_frozen BK101.out 4); (have hfz27_5 := blk_frozen BK101.out 5); (have hfz27_6 := blk_frozen BK101.out 6); (go_wp2); (refine bodyPost_ret (results_ct rfl _ _ gb101 31 #[.string (⟨#[]⟩ : ByteArray), .int .i64 0, .int .i64 0, .int .i64 0, .slice none 0 0, .bool false, .string (⟨#[]⟩ : ByteArray)] (0, 0) _ rfl (by (with_reducible repeat (first | refine kN ?_ _ | refine kD ?_ | refine kA ?_ _)); refine blk_put (cs := #[.string (⟨#[]⟩ : ByteArray), .int .i64 0, .int .i64 0, .int .i64 0, .slice none 0 0, .bool false, .string (⟨#[]⟩ : ByteArray)]) ?_ 6 _ rfl; (with_reducible repeat (first | refine kN ?_ _ | refine kD ?_ | refine kA ?_ _)); refine blk_put (cs := #[.string (⟨#[]⟩ : ByteArray), .int .i64 0, .int .i64 0, .int .i64 0, .slice none 0 0, .bool false, .string (⟨#[]⟩ : ByteArray)]) ?_ 5 _ rfl; (with_reducible repeat (first | refine kN ?_ _ | refine kD ?_ | refine kA ?_ _)); refine blk_put (cs := #[.string (⟨#[]⟩ : ByteArray), .int .i64 0, .int .i64 0, .int .i64 0, .slice none 0 0, .bool false, .string (⟨#[]⟩ : ByteArray)]) ?_ 4 _ rfl; (with_reducible repeat (first | refine kN ?_ _ | refine kD ?_ | refine kA ?_ _)); refine blk_put (cs := #[.string (⟨#[]⟩ : ByteArray), .int .i64 0, .int .i64 0, .int .i64 0, .slice none 0 0, .bool false, .string (⟨#[]⟩ : ByteArray)]) ?_ 3 _ rfl; (with_reducible repeat (first | refine kN ?_ _ | refine kD ?_ | refine kA ?_ _)); refine blk_put (cs := #[.string (⟨#[]⟩ : ByteArray), .int .i64 0, .int .i64 0, .int .i64 0, .slice none 0 0, .bool false, .string (⟨#[]⟩ : ByteArray)]) ?_ 2 _ rfl; (with_reducible repeat (first | refine kN ?_ _ | refine kD ?_ | refine kA ?_ _)); refine blk_put (cs := #[.string (⟨#[]⟩ : ByteArray), .int .i64 0, .int .i64 0, .int .i64 0, .slice none 0 0, .bool false, .string (⟨#[]⟩ : ByteArray)]) ?_ 1 _ rfl; (with_reducible repeat (first | refine kN ?_ _ | refine kD ?_ | refine kA ?_ _)); refine blk_put (cs := #[.string (⟨#[]⟩ : ByteArray), .int .i64 0, .int .i64 0, .int .i64 0, .slice none 0 0, .bool false, .string (⟨#[]⟩ : ByteArray)]) ?_ 0 _ rfl; (with_reducible repeat (first | refine kN ?_ _ | refine kD ?_ | refine kA ?_ _)); exact BK101.out) Tryd.underlying31 rfl (by kernel_rfl)) rfl ?_); (exact ⟨_, by first | rfl | (simp [errW_none, errW_some] <;> rfl) | (simp [*, errW_none, errW_some] <;> rfl), by first | exact Kd.R_nil _ _ _ _ _ | exact Kd.N_nil _ _ _ _ _ | exact Kd.V_nil _ _ _ _ _ | exact Kd.Q_nil _ _ _ _ _ | exact Kd.S_nil _ _ _ _ _, by repeat (first | (with_reducible first | exact HB.out | apply bA | apply bN | apply bD | refine below_set ?_ GE101.out | refine below_set ?_ GE103.out) | exact HB.out)⟩)
           ·rw [if_neg c25] at H
            (have c25b0 : decide ((y105.length : Int) < 2) = false := decide_eq_false c25); (have c25b1 : decide (y105.length < 2) = false := decide_eq_false (by omega)); clear c25; (by_cases c28 : 0 < (y105.length : Int))
            ·rw [if_pos c28] at H
             (have c28b0 : decide (0 < (y105.length : Int)) = true := decide_eq_true c28); (have c28b1 : decide (0 < y105.length) = true := decide_eq_true (by omega)); clear c28; (replace H := Option.bind_eq_some_iff.mp H); (obtain ⟨⟨t111, t112⟩, A290, H⟩ := H); (replace H : (if 1 < (y105.length : Int) then ((impl_ParseInt.f (rdOf ByteArray.empty y105 1)).bind fun bt114 => (if 2 ≤ (y105.length : Int) then (impl_fieldOfWords.j3 kj18 (y105.drop 2) (rdOf ByteArray.empty l0 0) x104001_18 t111 bt114.1 ([] : List ByteArray) false (⟨#[]⟩ : ByteArray)) else (none))) else (none)) = some (r1, r2, r3, r4, r5, r6, r7, r8) := H); (have A29 := Aside0.mk A290); clear A290; (by_cases c30 : 1 < (y105.length : Int))
             ·rw [if_pos c30] at H
              (have c30b0 : decide (1 < (y105.length : Int)) = true := decide_eq_true c30); (have c30b1 : decide (1 < y105.length) = true := decide_eq_true (by omega)); clear c30; (replace H := Option.bind_eq_some_iff.mp H); (obtain ⟨⟨t114, t115⟩, A310, H⟩ := H); (replace H : (if 2 ≤ (y105.length : Int) then (impl_fieldOfWords.j3 kj18 (y105.drop 2) (rdOf ByteArray.empty l0 0) x104001_18 t111 t114 ([] : List ByteArray) false (⟨#[]⟩ : ByteArray)) else (none)) = some (r1, r2, r3, r4, r5, r6, r7, r8) := H); (have A31 := Aside0.mk A310); clear A310; (by_cases c32 : 2 ≤ (y105.length : Int))
              ·rw [if_pos c32] at H
               (have c32b0 := eq_true c32); (have c32b1 : decide (2 ≤ (y105.length : Int)) = true := decide_eq_true c32); clear c32; (obtain ⟨y116, hy116⟩ : ∃ y_ : List ByteArray, y_ = (y105.drop 2) := ⟨_, rfl⟩); (replace H : (impl_fieldOfWords.j3 kj18 y116 (rdOf ByteArray.empty l0 0) x104001_18 t111 t114 ([] : List ByteArray) false (⟨#[]⟩ : ByteArray)) = some (r1, r2, r3, r4, r5, r6, r7, r8) := by first | (rw [hy116]; with_reducible exact H) | (have H2_ := (Option.bind_some _ _).symm.trans H; rw [hy116]; with_reducible exact H2_) | (have H2_ := (Option.bind_some _ _).symm.trans H; with_reducible exact H2_) | with_reducible exact H | (rw [hy116]; exact H) | exact H); (have Ny116 := Aside0.mk hy116); clear hy116; (have H' := Aside0.mk H); clear H; (have p110 : 0 ≤ (0 : Int) := (by omega)); (have q110 : 0 < (y105.length : Int) := of_decide_eq_true (by first | (with_reducible assumption) | assumption)); (obtain ⟨ad110, e110, hx110_0⟩ := Kd.at_string (Kd.V_reads' HO_6.out).2.2 0 p110 q110); (cases e110); (have qi110 : (0 < y105.length) = True := eq_true (by omega)); ((try rw [show ((0 : Int)).toNat = 0 from rfl] at hx110_0)); ((try rw [Addr.add_zero'] at hx110_0)); (replace p110 := eq_true p110); (replace q110 := eq_true q110)
               go_wp2_with (first | ((with_reducible refine gate_callee (f := 24) rfl ?_); refine gL (some 36) Tryd.func24 #[.string (rdOf ByteArray.empty y105 0)] ?_; (with_reducible refine (impl_ParseInt.calls (rdOf ByteArray.empty y105 0) t111 t112 _ ?side1 A29.out).mono ?_); (case side1 => first | exact GE.below HG.out (by repeat (first | (with_reducible first | exact HB.out | apply bA | apply bN | apply bD | refine below_set ?_ GE101.out | refine below_set ?_ GE103.out) | exact HB.out)) | (repeat (first | exact HG.out | (with_reducible first | apply GE.drewN | apply GE.drew | apply GE.alloc)))); rintro e w33 ⟨rfl, hb⟩; refine ⟨_, rfl, ?_⟩; have n0_ := Aside0.mk (Kd.V_below (by (with_reducible repeat (first | apply Kd.V_alloc | apply Kd.V_drewN | apply Kd.V_drew)); exact HO_6.out) hb); have n1_ := Aside0.mk (blk_below (by (with_reducible repeat (first | refine kN ?_ _ | refine kD ?_ | refine kA ?_ _)); exact BK101.out) hb); have n2_ := Aside0.mk (blk_below (by (with_reducible repeat (first | refine kN ?_ _ | refine kD ?_ | refine kA ?_ _)); exact BK103.out) hb); have n3_ := Aside0.mk (below_step (by repeat (first | (with_reducible first | exact HB.out | apply bA | apply bN | apply bD | refine below_set ?_ GE101.out | refine below_set ?_ GE103.out) | exact HB.out)) hb); clear HO_6 BK101 BK103 HB; have HO_6 := n0_; have BK101 := n1_; have BK103 := n2_; have HB := n3_; clear n0_ n1_ n2_ n3_; (try clear hb); (try clear hb2); (try clear hk); (try clear hi); have hnb34 := NB103_101.out; have hnc34 := NB101_103.out; have hcz35_0 := cz BK103.out 0; have hcz35_1 := cz BK103.out 1; have hcz35_2 := cz BK103.out 2; have hcz35_3 := cz BK103.out 3; have hcz35_4 := cz BK103.out 4; have hcz35_5 := cz BK103.out 5; have hcz35_6 := cz BK103.out 6; have hfz35_0 := blk_frozen BK103.out 0; have hfz35_1 := blk_frozen BK103.out 1; have hfz35_2 := blk_frozen BK103.out 2; have hfz35_3 := blk_frozen BK103.out 3; have hfz35_4 := blk_frozen BK103.out 4; have hfz35_5 := blk_frozen BK103.out 5; have hfz35_6 := blk_frozen BK103.out 6; have p113 : 0 ≤ (1 : Int) := (by omega); have q113 : 1 < (y105.length : Int) := of_decide_eq_true (by first | (with_reducible assumption) | assumption); obtain ⟨ad113, e113, hx113_0⟩ := Kd.at_string (Kd.V_reads' HO_6.out).2.2 1 p113 q113; obtain rfl : ad110 = ad113 := (by injection e113); (try simp only [show (1 : Int).toNat = 1 from rfl, Nat.reduceMul, Nat.reduceEqDiff, Go.Addr.add, ↓reduceIte] at hx113_0); have qi113 : (1 < y105.length) = True := eq_true (by omega); (try rw [show ((1 : Int)).toNat = 1 from rfl] at hx113_0); have hn113_0 : ad110.block ≠ gb103 := (by have hk := Kd.F_in (Kd.V_F HO_6.out) rfl (by omega) (by decide); first | exact hk.2.2 | exact hk.2 | exact hk.1.2); replace hx113_0 := (cell_far (p := ⟨gb103, 2, none⟩) (by first | (rw [add_block]; exact hn113_0) | (show (Addr.add _ _).block ≠ _; rw [add_block]; exact hn113_0) | exact hn113_0) (.int .i64 t111)).trans hx113_0; clear hn113_0; replace p113 := eq_true p113; replace q113 := eq_true q113) | ((with_reducible refine gate_callee (f := 24) rfl ?_); refine gL (some 44) Tryd.func24 #[.string (rdOf ByteArray.empty y105 1)] ?_; (with_reducible refine (impl_ParseInt.calls (rdOf ByteArray.empty y105 1) t114 t115 _ ?side1 A31.out).mono ?_); (case side1 => first | exact GE.below HG.out (by repeat (first | (with_reducible first | exact HB.out | apply bA | apply bN | apply bD | refine below_set ?_ GE101.out | refine below_set ?_ GE103.out) | exact HB.out)) | (repeat (first | exact HG.out | (with_reducible first | apply GE.drewN | apply GE.drew | apply GE.alloc)))); rintro e w36 ⟨rfl, hb⟩; refine ⟨_, rfl, ?_⟩; have n0_ := Aside0.mk (Kd.V_below (by (with_reducible repeat (first | apply Kd.V_alloc | apply Kd.V_drewN | apply Kd.V_drew)); exact (Kd.V_mono (Kd.V_far (p := ⟨gb103, 2, none⟩) (Kd.V_mono HO_6.out (fun k_ hk => (⟨hk, hk.2.2⟩ : _ ∧ k_ ≠ gb103))) (fun _ hk => hk.2) (.int .i64 t111)) (fun _ h_ => h_.1))) hb); have n1_ := Aside0.mk (blk_below (g := gb101) (o := .cells #[.string (⟨#[]⟩ : ByteArray), .int .i64 0, .int .i64 0, .int .i64 0, .slice none 0 0, .bool false, .string (⟨#[]⟩ : ByteArray)] 31 (0, 0)) (by (with_reducible repeat (first | refine kN ?_ _ | refine kD ?_ | refine kA ?_ _)); refine blk_far ?_ NB101_103.out _; (with_reducible repeat (first | refine kN ?_ _ | refine kD ?_ | refine kA ?_ _)); exact BK101.out) hb); have n2_ := Aside0.mk (blk_below (g := gb103) (o := .cells #[.string (rdOf ByteArray.empty l0 0), .int .i64 x104001_18, .int .i64 t111, .int .i64 0, .slice none 0 0, .bool false, .string (⟨#[]⟩ : ByteArray)] 31 (0, 0)) (by (with_reducible repeat (first | refine kN ?_ _ | refine kD ?_ | refine kA ?_ _)); refine blk_put (cs := #[.string (rdOf ByteArray.empty l0 0), .int .i64 x104001_18, .int .i64 0, .int .i64 0, .slice none 0 0, .bool false, .string (⟨#[]⟩ : ByteArray)]) ?_ 2 _ rfl; (with_reducible repeat (first | refine kN ?_ _ | refine kD ?_ | refine kA ?_ _)); exact BK103.out) hb); have n3_ := Aside0.mk (below_step (by repeat (first | (with_reducible first | exact HB.out | apply bA | apply bN | apply bD | refine below_set ?_ GE101.out | refine below_set ?_ GE103.out) | exact HB.out)) hb); clear HO_6 BK101 BK103 HB; have HO_6 := n0_; have BK101 := n1_; have BK103 := n2_; have HB := n3_; clear n0_ n1_ n2_ n3_; (try clear hb); (try clear hb2); (try clear hk); (try clear hi); have hcz37_0 := cz BK103.out 0; have hcz37_1 := cz BK103.out 1; have hcz37_2 := cz BK103.out 2; have hcz37_3 := cz BK103.out 3; have hcz37_4 := cz BK103.out 4; have hcz37_5 := cz BK103.out 5; have hcz37_6 := cz BK103.out 6; have hfz37_0 := blk_frozen BK103.out 0; have hfz37_1 := blk_frozen BK103.out 1; have hfz37_2 := blk_frozen BK103.out 2; have hfz37_3 := blk_frozen BK103.out 3; have hfz37_4 := blk_frozen BK103.out 4; have hfz37_5 := blk_frozen BK103.out 5; have hfz37_6 := blk_frozen BK103.out 6) | ((with_reducible refine gate_store (t := 3) (p := 47) rfl ?_); refine store_event (t := 3) (p := 47) (v := ?vo_w38) (w1 := (w36.setCell ⟨gb103, 3, none⟩ (.int .i64 t114))) ?hg ?ho ?hn ?hr ?_; (case ho => rfl); (case hg => rfl); (case hn => rfl); (case hr => first | (go_simp; done) | (go_simp; rfl)); intro w38 hw; have n0_ : Aside0 (Kd.V Kd.string 9 w38 w.heap.size (fun k_ => (P0_ k_ ∨ w.heap.size ≤ k_) ∧ k_ ≠ gb101 ∧ k_ ≠ gb103) (.slice (some ad110) y105.length c15) y105) := ⟨(by rw [hw]; exact (by (with_reducible repeat (first | apply Kd.V_alloc | apply Kd.V_drewN | apply Kd.V_drew)); exact Kd.V_mono (Kd.V_far (p := ⟨gb103, 3, none⟩) (Kd.V_mono HO_6.out (fun k_ hk => (⟨hk, hk.2.2⟩ : _ ∧ k_ ≠ gb103))) (fun _ hk => hk.2) (.int .i64 t114)) (fun _ hk => ⟨hk.1.1, ⟨hk.1.2.1, hk.1.2.2⟩⟩)))⟩; have n1_ : Aside0 (w38.heap[gb101]? = some (.cells #[.string (⟨#[]⟩ : ByteArray), .int .i64 0, .int .i64 0, .int .i64 0, .slice none 0 0, .bool false, .string (⟨#[]⟩ : ByteArray)] 31 (0, 0))) := ⟨(by rw [hw]; exact (by (with_reducible repeat (first | refine kN ?_ _ | refine kD ?_ | refine kA ?_ _)); refine blk_far ?_ NB101_103.out _; (with_reducible repeat (first | refine kN ?_ _ | refine kD ?_ | refine kA ?_ _)); exact BK101.out))⟩; have n2_ : Aside0 (w38.heap[gb103]? = some (.cells #[.string (rdOf ByteArray.empty l0 0), .int .i64 x104001_18, .int .i64 t111, .int .i64 t114, .slice none 0 0, .bool false, .string (⟨#[]⟩ : ByteArray)] 31 (0, 0))) := ⟨(by rw [hw]; exact (by (with_reducible repeat (first | refine kN ?_ _ | refine kD ?_ | refine kA ?_ _)); refine blk_put (cs := #[.string (rdOf ByteArray.empty l0 0), .int .i64 x104001_18, .int .i64 t111, .int .i64 0, .slice none 0 0, .bool false, .string (⟨#[]⟩ : ByteArray)]) ?_ 3 _ rfl; (with_reducible repeat (first | refine kN ?_ _ | refine kD ?_ | refine kA ?_ _)); exact BK103.out))⟩; have n3_ : Aside0 (Below w.heap.size w w38) := ⟨(by rw [hw]; exact (by repeat (first | (with_reducible first | exact HB.out | apply bA | apply bN | apply bD | refine below_set ?_ GE101.out | refine below_set ?_ GE103.out) | exact HB.out)))⟩; clear hw HO_6 BK101 BK103 HB; have HO_6 := n0_; have BK101 := n1_; have BK103 := n2_; have HB := n3_; clear n0_ n1_ n2_ n3_; have q39 : (2 : Int) ≤ ((y105.length : Int) : Int) := of_decide_eq_true (by first | (with_reducible assumption) | assumption); obtain ⟨i039, hi039, _, hsz39, _⟩ := info_parts info9; have hroom39 : y105.length ≤ c15 := (Kd.V_reads' HO_6.out).2.1; have hC39 : Kd.F Kd.string _ _ (some ad110) y105.length y105 := (Kd.V_at (base := w.heap.size) HO_6.out).2.2; have hcut39 := cut_from (P := Tryd.prog) 28 9 .i64 Tryd.underlying28 hi039 1 hsz39 (some ad110) y105.length c15 2 (by omega) q39; have hr39 := Kd.F_cut (m := (2 : Int).toNat) (c := c15) hC39 (by omega) hroom39; obtain ⟨A39, hA39⟩ : ∃ A1, A1 = (if c15 = (2 : Int).toNat then (some ad110) else ((some ad110) : Option Addr).map (·.add ((2 : Int).toNat * 1))) := ⟨_, rfl⟩; obtain ⟨c39, hc39⟩ : ∃ c1, c1 = c15 - (2 : Int).toNat := ⟨_, rfl⟩; have hy39 : y116.length = y105.length - (2 : Int).toNat := (by rw [Ny116.out, List.length_drop] <;> omega); rw [show (y105).drop (2 : Int).toNat = y116 from Ny116.out.symm] at hr39; replace hr39 : Kd.F Kd.string _ _ A39 y116.length y116 := (by rw [hA39]; exact hr39); rw [← hy39, ← hA39, ← hc39] at hcut39; have HO120 := Aside0.mk (show Kd.V Kd.string 9 _ w.heap.size _ (.slice A39 y116.length c39) y116 from Kd.V_mk (by rw [hy39, hc39]; exact Nat.sub_le_sub_right hroom39 _) hr39); have HC120 := Aside0.mk (show y116.length ≤ c39 from by rw [hy39, hc39]; exact Nat.sub_le_sub_right hroom39 _); clear hr39 hC39 hroom39 hi039 hsz39 hc39; have KY39 := Aside0.mk hy39; have KA39 := Aside0.mk hA39; clear hy39 hA39; replace q39 := eq_true q39))
               go_meet
               case rel => exact ⟨_, (y116), ((⟨#[]⟩ : ByteArray)), (0), (0), (0), (false), ((⟨#[]⟩ : ByteArray)), (x104001_18), (t111), (t114), (([] : List ByteArray)), (.slice none 0 0), H', ⟨by have := HJ15.out; have := HJ18.out; first | omega | exact Nat.le_refl _⟩, ⟨by (with_reducible repeat (first | apply Kd.V_alloc | apply Kd.V_drewN | apply Kd.V_drew)); exact Kd.V_mono HO120.out (fun _ hk => ⟨hk.1, ⟨(by simp [Value.ownBlock]), ⟨hk.2.1, hk.2.2⟩⟩⟩)⟩, ⟨by first | exact Kd.R_nil _ _ _ _ _ | exact Kd.N_nil _ _ _ _ _ | exact Kd.V_nil _ _ _ _ _ | exact Kd.Q_nil _ _ _ _ _ | exact Kd.S_nil _ _ _ _ _⟩, ⟨by (with_reducible repeat (first | refine kN ?_ _ | refine kD ?_ | refine kA ?_ _)); exact BK101.out⟩, ⟨by (with_reducible repeat (first | refine kN ?_ _ | refine kD ?_ | refine kA ?_ _)); exact BK103.out⟩, ⟨by repeat (first | (with_reducible first | exact HB.out | apply bA | apply bN | apply bD | refine below_set ?_ GE101.out | refine below_set ?_ GE103.out) | exact HB.out)⟩⟩
              ·rw [if_neg c32] at H
               exact absurd H (by simp)
             ·rw [if_neg c30] at H
              exact absurd H (by simp)
            ·rw [if_neg c28] at H
             exact absurd H (by simp)
        ·replace c18 := Bool.eq_false_iff.mpr c18
         subst c18; (rw [if_neg (show ¬ (false = true) by decide)] at H); (by_cases c40 : (rdOf ByteArray.empty l0 1).toList = ([99, 104, 111, 105, 99, 101] : List UInt8))
         ·rw [if_pos c40] at H
          (have c40b0 : ((rdOf ByteArray.empty l0 1).toList == ([99, 104, 111, 105, 99, 101] : List UInt8)) = true := beq_iff_eq.mpr c40); (have c40b1 : ((rdOf ByteArray.empty l0 1).toList != ([99, 104, 111, 105, 99, 101] : List UInt8)) = false := bne_eq_false_iff_eq.mpr c40); clear c40; (have H' := Aside0.mk H); clear H; (have hnb41 := NB103_101.out); (have hnc41 := NB101_103.out); (have hcz42_0 := cz BK103.out 0); (have hcz42_1 := cz BK103.out 1); (have hcz42_2 := cz BK103.out 2); (have hcz42_3 := cz BK103.out 3); (have hcz42_4 := cz BK103.out 4); (have hcz42_5 := cz BK103.out 5); (have hcz42_6 := cz BK103.out 6); (have hfz42_0 := blk_frozen BK103.out 0); (have hfz42_1 := blk_frozen BK103.out 1); (have hfz42_2 := blk_frozen BK103.out 2); (have hfz42_3 := blk_frozen BK103.out 3); (have hfz42_4 := blk_frozen BK103.out 4); (have hfz42_5 := blk_frozen BK103.out 5); (have hfz42_6 := blk_frozen BK103.out 6); (go_wp2); (go_loopg [6] kj15 (fun kq v6 w' => ∃ (x6_2 : List ByteArray) (x104004_2 : List ByteArray) (u104004 : Value), Aside0 (impl_fieldOfWords.l0 kq x6_2 (rdOf ByteArray.empty l0 0) 3 0 0 x104004_2 false (⟨#[]⟩ : ByteArray) = some (r1, r2, r3, r4, r5, r6, r7, r8)) ∧ Aside0 (kq ≤ kj15) ∧ Aside0 (Kd.V Kd.string 9 w' w.heap.size (fun k_ => (P0_ k_ ∨ w.heap.size ≤ k_) ∧ some k_ ≠ (u104004 : Value).ownBlock ∧ k_ ≠ gb101 ∧ k_ ≠ gb103) v6 x6_2) ∧ Aside0 (Kd.R Kd.string 9 w' w.heap.size (fun k_ => (w.heap.size ≤ k_)) u104004 x104004_2) ∧ Aside0 (w'.heap[gb101]? = some (.cells #[.string (⟨#[]⟩ : ByteArray), .int .i64 0, .int .i64 0, .int .i64 0, (.slice none 0 0), .bool false, .string (⟨#[]⟩ : ByteArray)] 31 (0, 0))) ∧ Aside0 (w'.heap[gb103]? = some (.cells #[.string (rdOf ByteArray.empty l0 0), .int .i64 3, .int .i64 0, .int .i64 0, u104004, .bool false, .string (⟨#[]⟩ : ByteArray)] 31 (0, 0))) ∧ Aside0 (Below w.heap.size w w')))
          case atStart => exact ⟨(y105), (([] : List ByteArray)), (.slice none 0 0), H', ⟨Nat.le_refl _⟩, ⟨by (with_reducible repeat (first | apply Kd.V_alloc | apply Kd.V_drewN | apply Kd.V_drew)); exact Kd.V_mono (Kd.V_far (p := ⟨gb103, 1, none⟩) (Kd.V_mono HO_6.out (fun k_ hk => (⟨hk, hk.2.2⟩ : _ ∧ k_ ≠ gb103))) (fun _ hk => hk.2) (.int .i64 3)) (fun _ hk => ⟨hk.1.1, ⟨(by simp [Value.ownBlock]), ⟨hk.1.2.1, hk.1.2.2⟩⟩⟩)⟩, ⟨by first | exact Kd.R_nil _ _ _ _ _ | exact Kd.N_nil _ _ _ _ _ | exact Kd.V_nil _ _ _ _ _ | exact Kd.Q_nil _ _ _ _ _ | exact Kd.S_nil _ _ _ _ _⟩, ⟨by (with_reducible repeat (first | refine kN ?_ _ | refine kD ?_ | refine kA ?_ _)); refine blk_far ?_ NB101_103.out _; (with_reducible repeat (first | refine kN ?_ _ | refine kD ?_ | refine kA ?_ _)); exact BK101.out⟩, ⟨by (with_reducible repeat (first | refine kN ?_ _ | refine kD ?_ | refine kA ?_ _)); refine blk_put (cs := #[.string (rdOf ByteArray.empty l0 0), .int .i64 0, .int .i64 0, .int .i64 0, .slice none 0 0, .bool false, .string (⟨#[]⟩ : ByteArray)]) ?_ 1 _ rfl; (with_reducible repeat (first | refine kN ?_ _ | refine kD ?_ | refine kA ?_ _)); exact BK103.out⟩, ⟨by repeat (first | (with_reducible first | exact HB.out | apply bA | apply bN | apply bD | refine below_set ?_ GE101.out | refine below_set ?_ GE103.out) | exact HB.out)⟩⟩
          case round =>
           (clear H'); (try clear c1); (try clear p1); (try clear q1); (try clear hx1); (try clear qi1); (try clear c2); (try clear c2b0); (try clear c2b1); (try clear p2); (try clear c3); (try clear q3); (try clear c4); (try clear c5); (try clear c5b0); (try clear c5b1); (try clear c6); (try clear c6b0); (try clear c6b1); (try clear c7); (try clear c7b0); (try clear c7b1); (try clear p10); (try clear q10); (try clear hx10); (try clear qi10); (try clear c11); (try clear p11); (try clear q11); (try clear hx11); (try clear qi11); (try clear c14); (try clear c15); (try clear q15); (try clear c17); (try clear c17b0); (try clear c17b1); (try clear c18); (try clear c20); (try clear c22); (try clear c22b0); (try clear c22b1); (try clear c23); (try clear c24); (try clear c25); (try clear c25b0); (try clear c25b1); (try clear c26); (try clear c28); (try clear c28b0); (try clear c28b1); (try clear c30); (try clear c30b0); (try clear c30b1); (try clear c32); (try clear c32b0); (try clear c32b1); (try clear c34); (try clear c39); (try clear q39); (try clear c40); (try clear c40b0); (try clear c40b1); (try clear c41); (try clear hcz12_0); (try clear hcz12_1); (try clear hcz12_2); (try clear hcz12_3); (try clear hcz12_4); (try clear hcz12_5); (try clear hcz12_6); (try clear hcz21_0); (try clear hcz21_1); (try clear hcz21_2); (try clear hcz21_3); (try clear hcz21_4); (try clear hcz21_5); (try clear hcz21_6); (try clear hcz24_0); (try clear hcz24_1); (try clear hcz24_2); (try clear hcz24_3); (try clear hcz24_4); (try clear hcz24_5); (try clear hcz24_6); (try clear hcz27_0); (try clear hcz27_1); (try clear hcz27_2); (try clear hcz27_3); (try clear hcz27_4); (try clear hcz27_5); (try clear hcz27_6); (try clear hcz35_0); (try clear hcz35_1); (try clear hcz35_2); (try clear hcz35_3); (try clear hcz35_4); (try clear hcz35_5); (try clear hcz35_6); (try clear hcz37_0); (try clear hcz37_1); (try clear hcz37_2); (try clear hcz37_3); (try clear hcz37_4); (try clear hcz37_5); (try clear hcz37_6); (try clear hcz42_0); (try clear hcz42_1); (try clear hcz42_2); (try clear hcz42_3); (try clear hcz42_4); (try clear hcz42_5); (try clear hcz42_6); (try clear hcz4_0); (try clear hcz4_1); (try clear hcz4_2); (try clear hcz4_3); (try clear hcz4_4); (try clear hcz4_5); (try clear hcz4_6); (try clear hfz12_0); (try clear hfz12_1); (try clear hfz12_2); (try clear hfz12_3); (try clear hfz12_4); (try clear hfz12_5); (try clear hfz12_6); (try clear hfz21_0); (try clear hfz21_1); (try clear hfz21_2); (try clear hfz21_3); (try clear hfz21_4); (try clear hfz21_5); (try clear hfz21_6); (try clear hfz24_0); (try clear hfz24_1); (try clear hfz24_2); (try clear hfz24_3); (try clear hfz24_4); (try clear hfz24_5); (try clear hfz24_6); (try clear hfz27_0); (try clear hfz27_1); (try clear hfz27_2); (try clear hfz27_3); (try clear hfz27_4); (try clear hfz27_5); (try clear hfz27_6); (try clear hfz35_0); (try clear hfz35_1); (try clear hfz35_2); (try clear hfz35_3); (try clear hfz35_4); (try clear hfz35_5); (try clear hfz35_6); (try clear hfz37_0); (try clear hfz37_1); (try clear hfz37_2); (try clear hfz37_3); (try clear hfz37_4); (try clear hfz37_5); (try clear hfz37_6); (try clear hfz42_0); (try clear hfz42_1); (try clear hfz42_2); (try clear hfz42_3); (try clear hfz42_4); (try clear hfz42_5); (try clear hfz42_6); (try clear hfz4_0); (try clear hfz4_1); (try clear hfz4_2); (try clear hfz4_3); (try clear hfz4_4); (try clear hfz4_5); (try clear hfz4_6); (try clear hx102_0); (try clear hx104_0); (try clear hx110_0); (try clear hx113_0); (try clear p1); (try clear p10); (try clear p102); (try clear p104); (try clear p110); (try clear p113); (try clear p2); (try clear q1); (try clear q10); (try clear q102); (try clear q104); (try clear q110); (try clear q113); (try clear q15); (try clear q39); (obtain ⟨x6_2, x104004_2, u104004, HA, HK2, HO_6, HO_104004, BK101, BK103, HB⟩ := hrel)
           cases gk with
           | zero => exact absurd HA.out (by simp [impl_fieldOfWords.l0])
           | succ k2 =>
            (have H := HA.out); clear HA; (simp only [impl_fieldOfWords.l0] at H); (by_cases c43 : (x6_2.length : Int) > 0)
            ·rw [if_pos c43] at H
             (have c43b0 : decide (0 < (x6_2.length : Int)) = true := decide_eq_true c43); (have c43b1 : decide (0 < x6_2.length) = true := decide_eq_true (by omega)); clear c43; (by_cases c44 : 0 < (x6_2.length : Int))
             ·rw [if_pos c44] at H
              (have c44b0 : decide (0 < (x6_2.length : Int)) = true := decide_eq_true c44); (have c44b1 : decide (0 < x6_2.length) = true := decide_eq_true (by omega)); clear c44; (by_cases c45 : (rdOf ByteArray.empty x6_2 0).toList = ([110, 101, 101, 100, 101, 100] : List UInt8))
              ·rw [if_pos c45] at H
               (have c45b0 : ((rdOf ByteArray.empty x6_2 0).toList == ([110, 101, 101, 100, 101, 100] : List UInt8)) = true := beq_iff_eq.mpr c45); (have c45b1 : ((rdOf ByteArray.empty x6_2 0).toList != ([110, 101, 101, 100, 101, 100] : List UInt8)) = false := bne_eq_false_iff_eq.mpr c45); clear c45; (have H' := Aside0.mk H); clear H; (obtain ⟨Ao46, co46, eo46⟩ := Kd.V_slice HO_6.out); subst eo46; (have p121 : 0 ≤ (0 : Int) := (by omega)); (have q121 : 0 < (x6_2.length : Int) := of_decide_eq_true (by first | (with_reducible assumption) | assumption)); (obtain ⟨ad121, e121, hx121_0⟩ := Kd.at_string (Kd.V_reads' HO_6.out).2.2 0 p121 q121); (cases e121); (have qi121 : (0 < x6_2.length) = True := eq_true (by omega)); ((try rw [show ((0 : Int)).toNat = 0 from rfl] at hx121_0)); ((try rw [Addr.add_zero'] at hx121_0)); (replace p121 := eq_true p121); (replace q121 := eq_true q121); (go_wp2); (go_meet)
               case rel => exact ⟨_, (x6_2), ((⟨#[]⟩ : ByteArray)), (0), (0), (0), (false), ((⟨#[]⟩ : ByteArray)), (3), (0), (0), (x104004_2), (u104004), H', ⟨by have := HJ15.out; have := HK2.out; first | omega | exact Nat.le_refl _⟩, ⟨by (with_reducible repeat (first | apply Kd.V_alloc | apply Kd.V_drewN | apply Kd.V_drew)); exact HO_6.out⟩, ⟨by (with_reducible repeat (first | apply rA | apply rN | apply rD)); exact HO_104004.out⟩, ⟨by (with_reducible repeat (first | refine kN ?_ _ | refine kD ?_ | refine kA ?_ _)); exact BK101.out⟩, ⟨by (with_reducible repeat (first | refine kN ?_ _ | refine kD ?_ | refine kA ?_ _)); exact BK103.out⟩, ⟨by repeat (first | (with_reducible first | exact HB.out | apply bA | apply bN | apply bD | refine below_set ?_ GE101.out | refine below_set ?_ GE103.out) | exact HB.out)⟩⟩
              ·rw [if_neg c45] at H
               (have c45b0 : ((rdOf ByteArray.empty x6_2 0).toList == ([110, 101, 101, 100, 101, 100] : List UInt8)) = false := beq_eq_false_iff_ne.mpr c45); (have c45b1 : ((rdOf ByteArray.empty x6_2 0).toList != ([110, 101, 101, 100, 101, 100] : List UInt8)) = true := bne_iff_ne.mpr c45); (by_cases c47 : (rdOf ByteArray.empty x6_2 0).toList = ([105, 102] : List UInt8))
               ·rw [if_pos c47] at H
                (have c47b0 : ((rdOf ByteArray.empty x6_2 0).toList == ([105, 102] : List UInt8)) = true := beq_iff_eq.mpr c47); (have c47b1 : ((rdOf ByteArray.empty x6_2 0).toList != ([105, 102] : List UInt8)) = false := bne_eq_false_iff_eq.mpr c47); clear c47; (have H' := Aside0.mk H); clear H; (obtain ⟨Ao48, co48, eo48⟩ := Kd.V_slice HO_6.out); subst eo48; (have p121 : 0 ≤ (0 : Int) := (by omega)); (have q121 : 0 < (x6_2.length : Int) := of_decide_eq_true (by first | (with_reducible assumption) | assumption)); (obtain ⟨ad121, e121, hx121_0⟩ := Kd.at_string (Kd.V_reads' HO_6.out).2.2 0 p121 q121); (cases e121); (have qi121 : (0 < x6_2.length) = True := eq_true (by omega)); ((try rw [show ((0 : Int)).toNat = 0 from rfl] at hx121_0)); ((try rw [Addr.add_zero'] at hx121_0)); (replace p121 := eq_true p121); (replace q121 := eq_true q121); (have p122 : 0 ≤ (0 : Int) := (by omega)); (have q122 : 0 < (x6_2.length : Int) := of_decide_eq_true (by first | (with_reducible assumption) | assumption)); (obtain ⟨ad122, e122, hx122_0⟩ := Kd.at_string (Kd.V_reads' HO_6.out).2.2 0 p122 q122); (obtain rfl : ad121 = ad122 := (by injection e122)); (have qi122 : (0 < x6_2.length) = True := eq_true (by omega)); ((try rw [show ((0 : Int)).toNat = 0 from rfl] at hx122_0)); ((try rw [Addr.add_zero'] at hx122_0)); (replace p122 := eq_true p122); (replace q122 := eq_true q122); (go_wp2); (go_meet)
                case rel => exact ⟨_, (x6_2), ((⟨#[]⟩ : ByteArray)), (0), (0), (0), (false), ((⟨#[]⟩ : ByteArray)), (3), (0), (0), (x104004_2), (u104004), H', ⟨by have := HJ15.out; have := HK2.out; first | omega | exact Nat.le_refl _⟩, ⟨by (with_reducible repeat (first | apply Kd.V_alloc | apply Kd.V_drewN | apply Kd.V_drew)); exact HO_6.out⟩, ⟨by (with_reducible repeat (first | apply rA | apply rN | apply rD)); exact HO_104004.out⟩, ⟨by (with_reducible repeat (first | refine kN ?_ _ | refine kD ?_ | refine kA ?_ _)); exact BK101.out⟩, ⟨by (with_reducible repeat (first | refine kN ?_ _ | refine kD ?_ | refine kA ?_ _)); exact BK103.out⟩, ⟨by repeat (first | (with_reducible first | exact HB.out | apply bA | apply bN | apply bD | refine below_set ?_ GE101.out | refine below_set ?_ GE103.out) | exact HB.out)⟩⟩
               ·rw [if_neg c47] at H
                (have c47b0 : ((rdOf ByteArray.empty x6_2 0).toList == ([105, 102] : List UInt8)) = false := beq_eq_false_iff_ne.mpr c47); (have c47b1 : ((rdOf ByteArray.empty x6_2 0).toList != ([105, 102] : List UInt8)) = true := bne_iff_ne.mpr c47); (by_cases c49 : x104004_2.length < 8796093022208)
                ·rw [if_pos c49] at H
                 (have LMc49 := Aside0.mk c49); clear c49; (obtain ⟨y124, hy124⟩ : ∃ y_ : List ByteArray, y_ = (x104004_2 ++ [rdOf ByteArray.empty x6_2 0]) := ⟨_, rfl⟩); (replace H : (if 1 ≤ (x6_2.length : Int) then (impl_fieldOfWords.l0 k2 (x6_2.drop 1) (rdOf ByteArray.empty l0 0) 3 0 0 y124 false (⟨#[]⟩ : ByteArray)) else (none)) = some (r1, r2, r3, r4, r5, r6, r7, r8) := by first | (rw [hy124]; with_reducible exact H) | (have H2_ := (Option.bind_some _ _).symm.trans H; rw [hy124]; with_reducible exact H2_) | (have H2_ := (Option.bind_some _ _).symm.trans H; with_reducible exact H2_) | with_reducible exact H | (rw [hy124]; exact H) | exact H); (have Ny124 := Aside0.mk hy124); clear hy124; (by_cases c50 : 1 ≤ (x6_2.length : Int))
                 ·rw [if_pos c50] at H
                  (have c50b0 := eq_true c50); (have c50b1 : decide (1 ≤ (x6_2.length : Int)) = true := decide_eq_true c50); clear c50; (obtain ⟨y127, hy127⟩ : ∃ y_ : List ByteArray, y_ = (x6_2.drop 1) := ⟨_, rfl⟩); (replace H : (impl_fieldOfWords.l0 k2 y127 (rdOf ByteArray.empty l0 0) 3 0 0 y124 false (⟨#[]⟩ : ByteArray)) = some (r1, r2, r3, r4, r5, r6, r7, r8) := by first | (rw [hy127]; with_reducible exact H) | (have H2_ := (Option.bind_some _ _).symm.trans H; rw [hy127]; with_reducible exact H2_) | (have H2_ := (Option.bind_some _ _).symm.trans H; with_reducible exact H2_) | with_reducible exact H | (rw [hy127]; exact H) | exact H); (have Ny127 := Aside0.mk hy127); clear hy127; (have H' := Aside0.mk H); clear H; (obtain ⟨Ao51, co51, eo51⟩ := Kd.V_slice HO_6.out); subst eo51; (have p121 : 0 ≤ (0 : Int) := (by omega)); (have q121 : 0 < (x6_2.length : Int) := of_decide_eq_true (by first | (with_reducible assumption) | assumption)); (obtain ⟨ad121, e121, hx121_0⟩ := Kd.at_string (Kd.V_reads' HO_6.out).2.2 0 p121 q121); (cases e121); (have qi121 : (0 < x6_2.length) = True := eq_true (by omega)); ((try rw [show ((0 : Int)).toNat = 0 from rfl] at hx121_0)); ((try rw [Addr.add_zero'] at hx121_0)); (replace p121 := eq_true p121); (replace q121 := eq_true q121); (have p122 : 0 ≤ (0 : Int) := (by omega)); (have q122 : 0 < (x6_2.length : Int) := of_decide_eq_true (by first | (with_reducible assumption) | assumption)); (obtain ⟨ad122, e122, hx122_0⟩ := Kd.at_string (Kd.V_reads' HO_6.out).2.2 0 p122 q122); (obtain rfl : ad121 = ad122 := (by injection e122)); (have qi122 : (0 < x6_2.length) = True := eq_true (by omega)); ((try rw [show ((0 : Int)).toNat = 0 from rfl] at hx122_0)); ((try rw [Addr.add_zero'] at hx122_0)); (replace p122 := eq_true p122); (replace q122 := eq_true q122); (try go_wp2); (have n0_ := Aside0.mk (Kd.V_drew HO_6.out)); (have n1_ := Aside0.mk (Kd.R_drew HO_104004.out)); (have n2_ := Aside0.mk (blk_drew BK101.out)); (have n3_ := Aside0.mk (blk_drew BK103.out)); (have n4_ := Aside0.mk (below_drew1 HB.out)); clear HO_6 HO_104004 BK101 BK103 HB; (have HO_6 := n0_); (have HO_104004 := n1_); (have BK101 := n2_); (have BK103 := n3_); (have HB := n4_); clear n0_ n1_ n2_ n3_ n4_; (have p123 : 0 ≤ (0 : Int) := (by omega)); (have q123 : 0 < (x6_2.length : Int) := of_decide_eq_true (by first | (with_reducible assumption) | assumption)); (obtain ⟨ad123, e123, hx123_0⟩ := Kd.at_string (Kd.V_reads' HO_6.out).2.2 0 p123 q123); (obtain rfl : ad121 = ad123 := (by injection e123)); (have qi123 : (0 < x6_2.length) = True := eq_true (by omega)); ((try rw [show ((0 : Int)).toNat = 0 from rfl] at hx123_0)); ((try rw [Addr.add_zero'] at hx123_0)); (replace p123 := eq_true p123); (replace q123 := eq_true q123); (refine start_ (n := 9) (S := fun w' => w'.cell? ⟨gb103, 0, none⟩ = some (.string (rdOf ByteArray.empty l0 0)) ∧ w'.cell? ⟨gb103, 1, none⟩ = some (.int .i64 3) ∧ w'.cell? ⟨gb103, 2, none⟩ = some (.int .i64 0) ∧ w'.cell? ⟨gb103, 3, none⟩ = some (.int .i64 0) ∧ w'.cell? ⟨gb103, 4, none⟩ = some (u104004) ∧ w'.cell? ⟨gb103, 5, none⟩ = some (.bool false) ∧ w'.cell? ⟨gb103, 6, none⟩ = some (.string (⟨#[]⟩ : ByteArray)) ∧ w'.cell? ad121 = some (.string (rdOf ByteArray.empty x6_2 0))) (ds := [6, 8]) (cn 9 0) (by kernel_rfl) rfl (by kernel_rfl) ⟨(blk_cell BK103.out 0).trans rfl, (blk_cell BK103.out 1).trans rfl, (blk_cell BK103.out 2).trans rfl, (blk_cell BK103.out 3).trans rfl, (blk_cell BK103.out 4).trans rfl, (blk_cell BK103.out 5).trans rfl, (blk_cell BK103.out 6).trans rfl, hx123_0⟩ (fun hHeld => ?_); refine with_tabW impl_fieldOfWords.tab19 impl_fieldOfWords.bits19 (fun HT_ HW_ => ?_)); (generalize wr.drew = w52 at HO_6 HO_104004 BK101 BK103 HB hx123_0 hHeld ⊢); (refine pB 0 (cn 9 1) (some 68) HT_ (h := ?_)); (refine pB 2 (cb 9 5) (some 70) HT_ (h := ?_)); (refine pB 3 (cb 9 13) (some 71) HT_ (h := ?_)); (refine tB 1 (cn 9 4) (some 69) HT_ HW_ hHeld (h := ?_)); (refine tB 4 (cn 9 5) (some 72) HT_ HW_ hHeld (h := ?_)); (refine one_ (i := 5) (N := some 73) (cn 9 6) rfl rfl (one_of HT_.out (by kernel_rfl)) (by decide) (fun K hK => ?_)); (refine value_ (w1 := ?_) (v := ?_) (by rfl) rfl ?_ ?_); (rotate_left 2)
                  ·go_simp
                   (constructor); (· rfl); (· rfl)
                  (refine hK.out _ _ ⟨(blk_cell (blk_alloc BK103.out _) 0).trans rfl, (blk_cell (blk_alloc BK103.out _) 1).trans rfl, (blk_cell (blk_alloc BK103.out _) 2).trans rfl, (blk_cell (blk_alloc BK103.out _) 3).trans rfl, (blk_cell (blk_alloc BK103.out _) 4).trans rfl, (blk_cell (blk_alloc BK103.out _) 5).trans rfl, (blk_cell (blk_alloc BK103.out _) 6).trans rfl, (World.cell?_alloc_lt _ _ _ (bltc _ _ (hHeld.2.2.2.2.2.2.2))).trans (hHeld.2.2.2.2.2.2.2)⟩ (fun hHeld => ?_)); clear hK K; (refine norm_ (a' := ?_) ?_ ?_); rotate_left; (· (show Act.put _ (some 73) _ = _); (simp only [Act.put, aS1, aS2, aS3, i64_w, i32_w]); rfl); (refine last_ (i := 6) (N := some 74) (cn 9 7) rfl rfl (one_of HT_.out (by kernel_rfl)) (by decide) (fun K hK => ?_)); (refine Kd.R_append_step Kd.string (w0 := w) w.heap.size (by rfl) (.tmp 69) (.tmp 73) 28 9 (.string ⟨#[]⟩) 16 rfl Tryd.underlying28 info9 rfl (by decide) (by omega) u104004 x104004_2 (rdOf ByteArray.empty x6_2 0) [.string (rdOf ByteArray.empty x6_2 0)] (fun k_ => (w.heap.size ≤ k_)) (fun _ => False) rfl rfl ?aP (fun _ hk => hk.elim) ?aF ?aO ?aB ?aS ?aL ?_); ((case aP => exact rfl)); ((case aB => exact (by repeat (first | (with_reducible first | exact HB.out | apply bA | apply bN | apply bD | refine below_set ?_ GE101.out | refine below_set ?_ GE103.out) | exact HB.out)))); ((case aF => exact (fun k_ hk => (Nat.le_trans (below_size (by repeat (first | (with_reducible first | exact HB.out | apply bA | apply bN | apply bD | refine below_set ?_ GE101.out | refine below_set ?_ GE103.out) | exact HB.out))) hk)))); ((case aO => exact (by (with_reducible repeat (first | apply rA | apply rN | apply rD)); exact HO_104004.out))); ((case aS => exact (below_size (by repeat (first | (with_reducible first | exact HB.out | apply bA | apply bN | apply bD | refine below_set ?_ GE101.out | refine below_set ?_ GE103.out) | exact HB.out))))); ((case aL => have := LMc49.out; omega)); intro v125 w53 ho hb hg hat; (rw [← Ny124.out] at ho); (have n0_ := Aside0.mk (Kd.V_afterv (ok := (fun k_ => (P0_ k_ ∨ w.heap.size ≤ k_) ∧ k_ ≠ gb101 ∧ k_ ≠ gb103)) (by (with_reducible repeat (first | apply Kd.V_alloc | apply Kd.V_drewN | apply Kd.V_drew)); exact Kd.V_mono HO_6.out (fun _ hk => ⟨⟨hk.1, ⟨hk.2.2.1, hk.2.2.2⟩⟩, hk.2.1⟩)) hg hat)); (have n1_ := Aside0.mk (blk_grown (by (with_reducible repeat (first | refine kN ?_ _ | refine kD ?_ | refine kA ?_ _)); exact BK101.out) hg (Kd.R_ne HO_104004.out BK101.out (by decide)))); (have n2_ := Aside0.mk (blk_grown (by (with_reducible repeat (first | refine kN ?_ _ | refine kD ?_ | refine kA ?_ _)); exact BK103.out) hg (Kd.R_ne HO_104004.out BK103.out (by decide)))); (have n3_ := Aside0.mk (hb)); (have n4_ := Aside0.mk (ho)); clear HO_6 BK101 BK103 HB HO_104004; (have HO_6 := n0_); (have BK101 := n1_); (have BK103 := n2_); (have HB := n3_); (have HO126 := n4_); clear n0_ n1_ n2_ n3_ n4_ ho hb hg hat; (obtain ⟨Ao54, co54, eo54⟩ := Kd.R_slice HO126.out); ((first | subst eo54 | (injection eo54 with f1_ f2_ f3_; have f4_ := f1_.symm; have f5_ := f3_.symm; clear f1_ f2_ f3_; subst f4_; subst f5_))); (refine hK.out _ _ ?_); clear hK K; (refine norm_ (a' := ?_) ?_ ?_); rotate_left; (· (show Act.put _ (some 74) _ = _); (simp only [Act.put, aS1, aS2, aS3, i64_w, i32_w]); rfl); (refine pB 7 (cn 9 8) (some 75) HT_ (h := ?_)); (refine last_ (i := 8) (N := none) (cn 9 9) rfl rfl (one_of HT_.out (by kernel_rfl)) (by decide) (fun K hK => ?_)); (have hs55 : w53.cell? ⟨gb103, 4, none⟩ = some (u104004) := (blk_cell BK103.out 4).trans rfl); (have hfs55 := blk_frozen BK103.out 4); (have hns55_0 := NB101_103.out); (have hms55_0 := NB103_101.out); (refine skip_ (w1 := ?_) (by rfl) rfl ?_ ?_); rotate_left; (· go_simp; rfl); (refine hK.out _ _ ?_); clear hK K; (refine done_ (done_of HT_.out (by kernel_rfl)) ?_); (have n0_ : Aside0 (Kd.V Kd.string 9 (w53.setCell ⟨gb103, 4, none⟩ (.slice Ao54 y124.length co54)) w.heap.size (fun k_ => (P0_ k_ ∨ w.heap.size ≤ k_) ∧ some k_ ≠ (.slice Ao54 y124.length co54 : Value).ownBlock ∧ k_ ≠ gb101 ∧ k_ ≠ gb103) (.slice (some ad121) x6_2.length co51) x6_2) := ⟨by (with_reducible repeat (first | apply Kd.V_alloc | apply Kd.V_drewN | apply Kd.V_drew)); exact Kd.V_mono (Kd.V_far (p := ⟨gb103, 4, none⟩) (Kd.V_mono HO_6.out (fun k_ hk => (⟨hk, hk.1.2.2⟩ : _ ∧ k_ ≠ gb103))) (fun _ hk => hk.2) (.slice Ao54 y124.length co54)) (fun _ hk => ⟨hk.1.1.1, ⟨hk.1.2, ⟨hk.1.1.2.1, hk.1.1.2.2⟩⟩⟩)⟩); (have n1_ : Aside0 (Kd.R Kd.string 9 (w53.setCell ⟨gb103, 4, none⟩ (.slice Ao54 y124.length co54)) w.heap.size (fun k_ => (w.heap.size ≤ k_)) (.slice Ao54 y124.length co54) y124) := ⟨by (with_reducible repeat (first | apply rA | apply rN | apply rD)); exact Kd.R_mono (Kd.R_far (p := ⟨gb103, 4, none⟩) (Kd.R_types HO126.out BK103.out (by decide)) (fun _ hk => hk.2) (.slice Ao54 y124.length co54)) (fun _ hk => hk.1)⟩); (have n2_ : Aside0 ((w53.setCell ⟨gb103, 4, none⟩ (.slice Ao54 y124.length co54)).heap[gb101]? = some (.cells #[.string (⟨#[]⟩ : ByteArray), .int .i64 0, .int .i64 0, .int .i64 0, .slice none 0 0, .bool false, .string (⟨#[]⟩ : ByteArray)] 31 (0, 0))) := ⟨by (with_reducible repeat (first | refine kN ?_ _ | refine kD ?_ | refine kA ?_ _)); refine blk_far ?_ NB101_103.out _; (with_reducible repeat (first | refine kN ?_ _ | refine kD ?_ | refine kA ?_ _)); exact BK101.out⟩)
                  (have n3_ : Aside0 ((w53.setCell ⟨gb103, 4, none⟩ (.slice Ao54 y124.length co54)).heap[gb103]? = some (.cells #[.string (rdOf ByteArray.empty l0 0), .int .i64 3, .int .i64 0, .int .i64 0, .slice Ao54 y124.length co54, .bool false, .string (⟨#[]⟩ : ByteArray)] 31 (0, 0))) := ⟨by (with_reducible repeat (first | refine kN ?_ _ | refine kD ?_ | refine kA ?_ _)); refine blk_put (cs := #[.string (rdOf ByteArray.empty l0 0), .int .i64 3, .int .i64 0, .int .i64 0, u104004, .bool false, .string (⟨#[]⟩ : ByteArray)]) ?_ 4 _ rfl; (with_reducible repeat (first | refine kN ?_ _ | refine kD ?_ | refine kA ?_ _)); exact BK103.out⟩); (have n4_ : Aside0 (Below w.heap.size w (w53.setCell ⟨gb103, 4, none⟩ (.slice Ao54 y124.length co54))) := ⟨by repeat (first | (with_reducible first | exact HB.out | apply bA | apply bN | apply bD | refine below_set ?_ GE101.out | refine below_set ?_ GE103.out) | exact HB.out)⟩); ((try clear HO_6)); ((try clear HO126)); ((try clear BK101)); ((try clear BK103)); ((try clear HB)); (generalize (w53.setCell ⟨gb103, 4, none⟩ (.slice Ao54 y124.length co54)) = w56 at n0_ n1_ n2_ n3_ n4_ ⊢); (have HO_6 := n0_); (have HO126 := n1_); (have BK101 := n2_); (have BK103 := n3_); (have HB := n4_); clear n0_ n1_ n2_ n3_ n4_; (have q57 : (1 : Int) ≤ ((x6_2.length : Int) : Int) := of_decide_eq_true (by first | (with_reducible assumption) | assumption)); (obtain ⟨i057, hi057, _, hsz57, _⟩ := info_parts info9); (have hroom57 : x6_2.length ≤ co51 := (Kd.V_reads' HO_6.out).2.1); (have hC57 : Kd.F Kd.string _ _ (some ad121) x6_2.length x6_2 := (Kd.V_at (base := w.heap.size) HO_6.out).2.2); (have hcut57 := cut_from (P := Tryd.prog) 28 9 .i64 Tryd.underlying28 hi057 1 hsz57 (some ad121) x6_2.length co51 1 (by omega) q57); (have hr57 := Kd.F_cut (m := (1 : Int).toNat) (c := co51) hC57 (by omega) hroom57); (obtain ⟨A57, hA57⟩ : ∃ A1, A1 = (if co51 = (1 : Int).toNat then (some ad121) else ((some ad121) : Option Addr).map (·.add ((1 : Int).toNat * 1))) := ⟨_, rfl⟩); (obtain ⟨c57, hc57⟩ : ∃ c1, c1 = co51 - (1 : Int).toNat := ⟨_, rfl⟩); (have hy57 : y127.length = x6_2.length - (1 : Int).toNat := (by rw [Ny127.out, List.length_drop] <;> omega)); (rw [show (x6_2).drop (1 : Int).toNat = y127 from Ny127.out.symm] at hr57); (replace hr57 : Kd.F Kd.string _ _ A57 y127.length y127 := (by rw [hA57]; exact hr57)); (rw [← hy57, ← hA57, ← hc57] at hcut57); (have HO131 := Aside0.mk (show Kd.V Kd.string 9 _ w.heap.size _ (.slice A57 y127.length c57) y127 from Kd.V_mk (by rw [hy57, hc57]; exact Nat.sub_le_sub_right hroom57 _) hr57)); (have HC131 := Aside0.mk (show y127.length ≤ c57 from by rw [hy57, hc57]; exact Nat.sub_le_sub_right hroom57 _)); clear hr57 hC57 hroom57 hi057 hsz57 hc57; (have KY57 := Aside0.mk hy57); (have KA57 := Aside0.mk hA57); clear hy57 hA57; (replace q57 := eq_true q57); (try go_wp2); go_roundg k2
                  case measure => have := HJ15.out; have := HK2.out; omega
                  case rel => exact ⟨(y127), (y124), (.slice Ao54 y124.length co54), H', ⟨by have := HJ15.out; have := HK2.out; omega⟩, ⟨by (with_reducible repeat (first | apply Kd.V_alloc | apply Kd.V_drewN | apply Kd.V_drew)); exact HO131.out⟩, ⟨by (with_reducible repeat (first | apply rA | apply rN | apply rD)); exact HO126.out⟩, ⟨by (with_reducible repeat (first | refine kN ?_ _ | refine kD ?_ | refine kA ?_ _)); exact BK101.out⟩, ⟨by (with_reducible repeat (first | refine kN ?_ _ | refine kD ?_ | refine kA ?_ _)); exact BK103.out⟩, ⟨by repeat (first | (with_reducible first | exact HB.out | apply bA | apply bN | apply bD | refine below_set ?_ GE101.out | refine below_set ?_ GE103.out) | exact HB.out)⟩⟩
                 ·rw [if_neg c50] at H
                  exact absurd H (by simp)
                ·rw [if_neg c49] at H
                 exact absurd H (by simp)
             ·rw [if_neg c44] at H
              exact absurd H (by simp)
            ·rw [if_neg c43] at H
             (have c43b0 : decide (0 < (x6_2.length : Int)) = false := decide_eq_false c43); (have c43b1 : decide (0 < x6_2.length) = false := decide_eq_false (by omega)); clear c43; (have H' := Aside0.mk H); clear H; (obtain ⟨Ao58, co58, eo58⟩ := Kd.V_slice HO_6.out); subst eo58; (go_wp2); (go_meet)
             case rel => exact ⟨_, (x6_2), ((⟨#[]⟩ : ByteArray)), (0), (0), (0), (false), ((⟨#[]⟩ : ByteArray)), (3), (0), (0), (x104004_2), (u104004), H', ⟨by have := HJ15.out; have := HK2.out; first | omega | exact Nat.le_refl _⟩, ⟨by (with_reducible repeat (first | apply Kd.V_alloc | apply Kd.V_drewN | apply Kd.V_drew)); exact HO_6.out⟩, ⟨by (with_reducible repeat (first | apply rA | apply rN | apply rD)); exact HO_104004.out⟩, ⟨by (with_reducible repeat (first | refine kN ?_ _ | refine kD ?_ | refine kA ?_ _)); exact BK101.out⟩, ⟨by (with_reducible repeat (first | refine kN ?_ _ | refine kD ?_ | refine kA ?_ _)); exact BK103.out⟩, ⟨by repeat (first | (with_reducible first | exact HB.out | apply bA | apply bN | apply bD | refine below_set ?_ GE101.out | refine below_set ?_ GE103.out) | exact HB.out)⟩⟩
         ·rw [if_neg c40] at H
          (have c40b0 : ((rdOf ByteArray.empty l0 1).toList == ([99, 104, 111, 105, 99, 101] : List UInt8)) = false := beq_eq_false_iff_ne.mpr c40); (have c40b1 : ((rdOf ByteArray.empty l0 1).toList != ([99, 104, 111, 105, 99, 101] : List UInt8)) = true := bne_iff_ne.mpr c40); (by_cases c59 : (rdOf ByteArray.empty l0 1).toList = ([102, 108, 97, 103] : List UInt8))
          ·rw [if_pos c59] at H
           (have c59b0 : ((rdOf ByteArray.empty l0 1).toList == ([102, 108, 97, 103] : List UInt8)) = true := beq_iff_eq.mpr c59); (have c59b1 : ((rdOf ByteArray.empty l0 1).toList != ([102, 108, 97, 103] : List UInt8)) = false := bne_eq_false_iff_eq.mpr c59); clear c59; (have H' := Aside0.mk H); clear H; (have hnb60 := NB103_101.out); (have hnc60 := NB101_103.out); (have hcz61_0 := cz BK103.out 0); (have hcz61_1 := cz BK103.out 1); (have hcz61_2 := cz BK103.out 2); (have hcz61_3 := cz BK103.out 3); (have hcz61_4 := cz BK103.out 4); (have hcz61_5 := cz BK103.out 5); (have hcz61_6 := cz BK103.out 6); (have hfz61_0 := blk_frozen BK103.out 0); (have hfz61_1 := blk_frozen BK103.out 1); (have hfz61_2 := blk_frozen BK103.out 2); (have hfz61_3 := blk_frozen BK103.out 3); (have hfz61_4 := blk_frozen BK103.out 4); (have hfz61_5 := blk_frozen BK103.out 5); (have hfz61_6 := blk_frozen BK103.out 6); (go_wp2); (go_meet)
           case rel => exact ⟨_, (y105), ((⟨#[]⟩ : ByteArray)), (0), (0), (0), (false), ((⟨#[]⟩ : ByteArray)), (4), (0), (0), (([] : List ByteArray)), (.slice none 0 0), H', ⟨by have := HJ15.out; first | omega | exact Nat.le_refl _⟩, ⟨by (with_reducible repeat (first | apply Kd.V_alloc | apply Kd.V_drewN | apply Kd.V_drew)); exact Kd.V_mono (Kd.V_far (p := ⟨gb103, 1, none⟩) (Kd.V_mono HO_6.out (fun k_ hk => (⟨hk, hk.2.2⟩ : _ ∧ k_ ≠ gb103))) (fun _ hk => hk.2) (.int .i64 4)) (fun _ hk => ⟨hk.1.1, ⟨(by simp [Value.ownBlock]), ⟨hk.1.2.1, hk.1.2.2⟩⟩⟩)⟩, ⟨by first | exact Kd.R_nil _ _ _ _ _ | exact Kd.N_nil _ _ _ _ _ | exact Kd.V_nil _ _ _ _ _ | exact Kd.Q_nil _ _ _ _ _ | exact Kd.S_nil _ _ _ _ _⟩, ⟨by (with_reducible repeat (first | refine kN ?_ _ | refine kD ?_ | refine kA ?_ _)); refine blk_far ?_ NB101_103.out _; (with_reducible repeat (first | refine kN ?_ _ | refine kD ?_ | refine kA ?_ _)); exact BK101.out⟩, ⟨by (with_reducible repeat (first | refine kN ?_ _ | refine kD ?_ | refine kA ?_ _)); refine blk_put (cs := #[.string (rdOf ByteArray.empty l0 0), .int .i64 0, .int .i64 0, .int .i64 0, .slice none 0 0, .bool false, .string (⟨#[]⟩ : ByteArray)]) ?_ 1 _ rfl; (with_reducible repeat (first | refine kN ?_ _ | refine kD ?_ | refine kA ?_ _)); exact BK103.out⟩, ⟨by repeat (first | (with_reducible first | exact HB.out | apply bA | apply bN | apply bD | refine below_set ?_ GE101.out | refine below_set ?_ GE103.out) | exact HB.out)⟩⟩
          ·rw [if_neg c59] at H
           (have c59b0 : ((rdOf ByteArray.empty l0 1).toList == ([102, 108, 97, 103] : List UInt8)) = false := beq_eq_false_iff_ne.mpr c59); (have c59b1 : ((rdOf ByteArray.empty l0 1).toList != ([102, 108, 97, 103] : List UInt8)) = true := bne_iff_ne.mpr c59); (have H' := Aside0.mk H); clear H; (go_wp2); (go_meet)
           case rel => exact ⟨_, (y105), ((⟨#[]⟩ : ByteArray)), (0), (0), (0), (false), ((⟨#[]⟩ : ByteArray)), (0), (0), (0), (([] : List ByteArray)), (.slice none 0 0), H', ⟨by have := HJ15.out; first | omega | exact Nat.le_refl _⟩, ⟨by (with_reducible repeat (first | apply Kd.V_alloc | apply Kd.V_drewN | apply Kd.V_drew)); exact Kd.V_mono HO_6.out (fun _ hk => ⟨hk.1, ⟨(by simp [Value.ownBlock]), ⟨hk.2.1, hk.2.2⟩⟩⟩)⟩, ⟨by first | exact Kd.R_nil _ _ _ _ _ | exact Kd.N_nil _ _ _ _ _ | exact Kd.V_nil _ _ _ _ _ | exact Kd.Q_nil _ _ _ _ _ | exact Kd.S_nil _ _ _ _ _⟩, ⟨by (with_reducible repeat (first | refine kN ?_ _ | refine kD ?_ | refine kA ?_ _)); exact BK101.out⟩, ⟨by (with_reducible repeat (first | refine kN ?_ _ | refine kD ?_ | refine kA ?_ _)); exact BK103.out⟩, ⟨by repeat (first | (with_reducible first | exact HB.out | apply bA | apply bN | apply bD | refine below_set ?_ GE101.out | refine below_set ?_ GE103.out) | exact HB.out)⟩⟩
     case rest =>
      clear HC8; (try clear c1); (try clear p1); (try clear q1); (try clear hx1); (try clear qi1); (try clear c2); (try clear c2b0); (try clear c2b1); (try clear p2); (try clear c3); (try clear q3); (try clear c4); (try clear c5); (try clear c5b0); (try clear c5b1); (try clear q5); (try clear c6); (try clear c6b0); (try clear c6b1); (try clear c7); (try clear c7b0); (try clear c7b1); (try clear p10); (try clear q10); (try clear hx10); (try clear qi10); (try clear c11); (try clear p11); (try clear q11); (try clear hx11); (try clear qi11); (try clear p12); (try clear q12); (try clear hx12); (try clear qi12); (try clear c14); (try clear c15); (try clear q15); (try clear c17); (try clear c17b0); (try clear c17b1); (try clear c18); (try clear c20); (try clear c22); (try clear c22b0); (try clear c22b1); (try clear c23); (try clear c24); (try clear c25); (try clear c25b0); (try clear c25b1); (try clear c26); (try clear c28); (try clear c28b0); (try clear c28b1); (try clear c30); (try clear c30b0); (try clear c30b1); (try clear c32); (try clear c32b0); (try clear c32b1); (try clear c34); (try clear c39); (try clear q39); (try clear c40); (try clear c40b0); (try clear c40b1); (try clear c41); (try clear c43); (try clear c43b0); (try clear c43b1); (try clear c44); (try clear c44b0); (try clear c44b1); (try clear c45); (try clear c45b0); (try clear c45b1); (try clear c47); (try clear c47b0); (try clear c47b1); (try clear c49); (try clear c50); (try clear c50b0); (try clear c50b1); (try clear c57); (try clear q57); (try clear c59); (try clear c59b0); (try clear c59b1); (try clear c60); (try clear hcz12_0); (try clear hcz12_1); (try clear hcz12_2); (try clear hcz12_3); (try clear hcz12_4); (try clear hcz12_5); (try clear hcz12_6); (try clear hcz21_0); (try clear hcz21_1); (try clear hcz21_2); (try clear hcz21_3); (try clear hcz21_4); (try clear hcz21_5); (try clear hcz21_6); (try clear hcz24_0); (try clear hcz24_1); (try clear hcz24_2); (try clear hcz24_3); (try clear hcz24_4); (try clear hcz24_5); (try clear hcz24_6); (try clear hcz27_0); (try clear hcz27_1); (try clear hcz27_2); (try clear hcz27_3); (try clear hcz27_4); (try clear hcz27_5); (try clear hcz27_6); (try clear hcz35_0); (try clear hcz35_1); (try clear hcz35_2); (try clear hcz35_3); (try clear hcz35_4); (try clear hcz35_5); (try clear hcz35_6); (try clear hcz37_0); (try clear hcz37_1); (try clear hcz37_2); (try clear hcz37_3); (try clear hcz37_4); (try clear hcz37_5); (try clear hcz37_6); (try clear hcz42_0); (try clear hcz42_1); (try clear hcz42_2); (try clear hcz42_3); (try clear hcz42_4); (try clear hcz42_5); (try clear hcz42_6); (try clear hcz4_0); (try clear hcz4_1); (try clear hcz4_2); (try clear hcz4_3); (try clear hcz4_4); (try clear hcz4_5); (try clear hcz4_6); (try clear hcz61_0); (try clear hcz61_1); (try clear hcz61_2); (try clear hcz61_3); (try clear hcz61_4); (try clear hcz61_5); (try clear hcz61_6); (try clear hfz12_0); (try clear hfz12_1); (try clear hfz12_2); (try clear hfz12_3); (try clear hfz12_4); (try clear hfz12_5); (try clear hfz12_6); (try clear hfz21_0); (try clear hfz21_1); (try clear hfz21_2); (try clear hfz21_3); (try clear hfz21_4); (try clear hfz21_5); (try clear hfz21_6); (try clear hfz24_0); (try clear hfz24_1); (try clear hfz24_2); (try clear hfz24_3); (try clear hfz24_4); (try clear hfz24_5); (try clear hfz24_6); (try clear hfz27_0); (try clear hfz27_1); (try clear hfz27_2); (try clear hfz27_3); (try clear hfz27_4); (try clear hfz27_5); (try clear hfz27_6); (try clear hfz35_0); (try clear hfz35_1); (try clear hfz35_2); (try clear hfz35_3); (try clear hfz35_4); (try clear hfz35_5); (try clear hfz35_6); (try clear hfz37_0); (try clear hfz37_1); (try clear hfz37_2); (try clear hfz37_3); (try clear hfz37_4); (try clear hfz37_5); (try clear hfz37_6); (try clear hfz42_0); (try clear hfz42_1); (try clear hfz42_2); (try clear hfz42_3); (try clear hfz42_4); (try clear hfz42_5); (try clear hfz42_6); (try clear hfz4_0); (try clear hfz4_1); (try clear hfz4_2); (try clear hfz4_3); (try clear hfz4_4); (try clear hfz4_5); (try clear hfz4_6); (try clear hfz61_0); (try clear hfz61_1); (try clear hfz61_2); (try clear hfz61_3); (try clear hfz61_4); (try clear hfz61_5); (try clear hfz61_6); (try clear hx102_0); (try clear hx104_0); (try clear hx110_0); (try clear hx113_0); (try clear hx121_0); (try clear hx122_0); (try clear hx123_0); (try clear p1); (try clear p10); (try clear p102); (try clear p104); (try clear p11); (try clear p110); (try clear p113); (try clear p121); (try clear p122); (try clear p123); (try clear p2); (try clear q1); (try clear q10); (try clear q102); (try clear q104); (try clear q11); (try clear q110); (try clear q113); (try clear q121); (try clear q122); (try clear q123); (try clear q15); (try clear q3); (try clear q39); (try clear q57); (obtain ⟨kq, x6_7, x102000_7, x102001_7, x102002_7, x102003_7, x102005_7, x102006_7, x104001_7, x104002_7, x104003_7, x104004_7, u104004, HA, HJ7, HO_6, HO_104004, BK101, BK103, HB⟩ := hcut)
      cases kq with
      | zero => exact absurd HA.out (by simp [impl_fieldOfWords.j3])
      | succ kj7 =>
       (have H := HA.out); clear HA; (simp only [impl_fieldOfWords.j3] at H); (have HC62 := Aside0.mk H); clear H; (go_upto_region 23 with (fail)); (go_cut [89] (fun v89 wc => ∃ (kq : Nat) (x89_61 : Bool), v89 = .bool x89_61 ∧ Aside0 (impl_fieldOfWords.j4 kq x6_7 x89_61 (rdOf ByteArray.empty l0 0) x104001_7 x104002_7 x104003_7 x104004_7 false (⟨#[]⟩ : ByteArray) = some (r1, r2, r3, r4, r5, r6, r7, r8)) ∧ Aside0 (kq ≤ kj7) ∧ Aside0 (Kd.V Kd.string 9 wc w.heap.size (fun k_ => (P0_ k_ ∨ w.heap.size ≤ k_) ∧ some k_ ≠ (u104004 : Value).ownBlock ∧ k_ ≠ gb101 ∧ k_ ≠ gb103) u6 x6_7) ∧ Aside0 (Kd.R Kd.string 9 wc w.heap.size (fun k_ => (w.heap.size ≤ k_)) u104004 x104004_7) ∧ Aside0 (wc.heap[gb101]? = some (.cells #[.string x102000_7, .int .i64 x102001_7, .int .i64 x102002_7, .int .i64 x102003_7, (.slice none 0 0), .bool x102005_7, .string x102006_7] 31 (0, 0))) ∧ Aside0 (wc.heap[gb103]? = some (.cells #[.string (rdOf ByteArray.empty l0 0), .int .i64 x104001_7, .int .i64 x104002_7, .int .i64 x104003_7, u104004, .bool false, .string (⟨#[]⟩ : ByteArray)] 31 (0, 0))) ∧ Aside0 (Below w.heap.size w wc)))
       case first =>
        (have H := HC62.out); clear HC62; (by_cases c63 : (x6_7.length : Int) > 0)
        ·rw [if_pos c63] at H
         (have c63b0 : decide (0 < (x6_7.length : Int)) = true := decide_eq_true c63); (have c63b1 : decide (0 < x6_7.length) = true := decide_eq_true (by omega)); clear c63; ((first | rw [c63b0] | (simp only [i64_w, i32_w]; rw [c63b0]) | skip)); (by_cases c64 : 0 < (x6_7.length : Int))
         ·rw [if_pos c64] at H
          (have c64b0 : decide (0 < (x6_7.length : Int)) = true := decide_eq_true c64); (have c64b1 : decide (0 < x6_7.length) = true := decide_eq_true (by omega)); clear c64; (have H' := Aside0.mk H); clear H; (obtain ⟨Ao65, co65, eo65⟩ := Kd.V_slice HO_6.out); subst eo65; (have p132 : 0 ≤ (0 : Int) := (by omega)); (have q132 : 0 < (x6_7.length : Int) := of_decide_eq_true (by first | (with_reducible assumption) | assumption)); (obtain ⟨ad132, e132, hx132_0⟩ := Kd.at_string (Kd.V_reads' HO_6.out).2.2 0 p132 q132); (cases e132); (have qi132 : (0 < x6_7.length) = True := eq_true (by omega)); ((try rw [show ((0 : Int)).toNat = 0 from rfl] at hx132_0)); ((try rw [Addr.add_zero'] at hx132_0)); (replace p132 := eq_true p132); (replace q132 := eq_true q132); (go_wp2); (go_meet)
          case rel => exact ⟨_, (((rdOf ByteArray.empty x6_7 0).toList == ([110, 101, 101, 100, 101, 100] : List UInt8))), (by first | rfl | (simp; done) | (simp [*]; done)), H', ⟨by have := HJ7.out; first | omega | exact Nat.le_refl _⟩, ⟨by (with_reducible repeat (first | apply Kd.V_alloc | apply Kd.V_drewN | apply Kd.V_drew)); exact HO_6.out⟩, ⟨by (with_reducible repeat (first | apply rA | apply rN | apply rD)); exact HO_104004.out⟩, ⟨by (with_reducible repeat (first | refine kN ?_ _ | refine kD ?_ | refine kA ?_ _)); exact BK101.out⟩, ⟨by (with_reducible repeat (first | refine kN ?_ _ | refine kD ?_ | refine kA ?_ _)); exact BK103.out⟩, ⟨by repeat (first | (with_reducible first | exact HB.out | apply bA | apply bN | apply bD | refine below_set ?_ GE101.out | refine below_set ?_ GE103.out) | exact HB.out)⟩⟩
         ·rw [if_neg c64] at H
          exact absurd H (by simp)
        ·rw [if_neg c63] at H
         (have c63b0 : decide (0 < (x6_7.length : Int)) = false := decide_eq_false c63); (have c63b1 : decide (0 < x6_7.length) = false := decide_eq_false (by omega)); clear c63; ((first | rw [c63b0] | (simp only [i64_w, i32_w]; rw [c63b0]) | skip)); (have H' := Aside0.mk H); clear H; (obtain ⟨Ao66, co66, eo66⟩ := Kd.V_slice HO_6.out); subst eo66; (go_wp2); (go_meet)
         case rel => exact ⟨_, (false), (by first | rfl | (simp; done) | (simp [*]; done)), H', ⟨by have := HJ7.out; first | omega | exact Nat.le_refl _⟩, ⟨by (with_reducible repeat (first | apply Kd.V_alloc | apply Kd.V_drewN | apply Kd.V_drew)); exact HO_6.out⟩, ⟨by (with_reducible repeat (first | apply rA | apply rN | apply rD)); exact HO_104004.out⟩, ⟨by (with_reducible repeat (first | refine kN ?_ _ | refine kD ?_ | refine kA ?_ _)); exact BK101.out⟩, ⟨by (with_reducible repeat (first | refine kN ?_ _ | refine kD ?_ | refine kA ?_ _)); exact BK103.out⟩, ⟨by repeat (first | (with_reducible first | exact HB.out | apply bA | apply bN | apply bD | refine below_set ?_ GE101.out | refine below_set ?_ GE103.out) | exact HB.out)⟩⟩
       case rest =>
        clear HC62; (try clear c1); (try clear p1); (try clear q1); (try clear hx1); (try clear qi1); (try clear c2); (try clear c2b0); (try clear c2b1); (try clear p2); (try clear c3); (try clear q3); (try clear c4); (try clear c5); (try clear c5b0); (try clear c5b1); (try clear q5); (try clear c6); (try clear c6b0); (try clear c6b1); (try clear c7); (try clear c7b0); (try clear c7b1); (try clear p10); (try clear q10); (try clear hx10); (try clear qi10); (try clear c11); (try clear p11); (try clear q11); (try clear hx11); (try clear qi11); (try clear p12); (try clear q12); (try clear hx12); (try clear qi12); (try clear p13); (try clear q13); (try clear hx13); (try clear qi13); (try clear c14); (try clear c15); (try clear q15); (try clear c17); (try clear c17b0); (try clear c17b1); (try clear c18); (try clear c20); (try clear c22); (try clear c22b0); (try clear c22b1); (try clear c23); (try clear c24); (try clear c25); (try clear c25b0); (try clear c25b1); (try clear c26); (try clear c28); (try clear c28b0); (try clear c28b1); (try clear c30); (try clear c30b0); (try clear c30b1); (try clear c32); (try clear c32b0); (try clear c32b1); (try clear c34); (try clear c39); (try clear q39); (try clear c40); (try clear c40b0); (try clear c40b1); (try clear c41); (try clear c43); (try clear c43b0); (try clear c43b1); (try clear c44); (try clear c44b0); (try clear c44b1); (try clear c45); (try clear c45b0); (try clear c45b1); (try clear c47); (try clear c47b0); (try clear c47b1); (try clear c49); (try clear c50); (try clear c50b0); (try clear c50b1); (try clear c57); (try clear q57); (try clear c59); (try clear c59b0); (try clear c59b1); (try clear c60); (try clear c63); (try clear c63b0); (try clear c63b1); (try clear c64); (try clear c64b0); (try clear c64b1); (try clear hcz12_0); (try clear hcz12_1); (try clear hcz12_2); (try clear hcz12_3); (try clear hcz12_4); (try clear hcz12_5); (try clear hcz12_6); (try clear hcz21_0); (try clear hcz21_1); (try clear hcz21_2); (try clear hcz21_3); (try clear hcz21_4); (try clear hcz21_5); (try clear hcz21_6); (try clear hcz24_0); (try clear hcz24_1); (try clear hcz24_2); (try clear hcz24_3); (try clear hcz24_4); (try clear hcz24_5); (try clear hcz24_6); (try clear hcz27_0); (try clear hcz27_1); (try clear hcz27_2); (try clear hcz27_3); (try clear hcz27_4); (try clear hcz27_5); (try clear hcz27_6); (try clear hcz35_0); (try clear hcz35_1); (try clear hcz35_2); (try clear hcz35_3); (try clear hcz35_4); (try clear hcz35_5); (try clear hcz35_6); (try clear hcz37_0); (try clear hcz37_1); (try clear hcz37_2); (try clear hcz37_3); (try clear hcz37_4); (try clear hcz37_5); (try clear hcz37_6); (try clear hcz42_0); (try clear hcz42_1); (try clear hcz42_2); (try clear hcz42_3); (try clear hcz42_4); (try clear hcz42_5); (try clear hcz42_6); (try clear hcz4_0); (try clear hcz4_1); (try clear hcz4_2); (try clear hcz4_3); (try clear hcz4_4); (try clear hcz4_5); (try clear hcz4_6); (try clear hcz61_0); (try clear hcz61_1); (try clear hcz61_2); (try clear hcz61_3); (try clear hcz61_4); (try clear hcz61_5); (try clear hcz61_6); (try clear hfz12_0); (try clear hfz12_1); (try clear hfz12_2); (try clear hfz12_3); (try clear hfz12_4); (try clear hfz12_5); (try clear hfz12_6); (try clear hfz21_0); (try clear hfz21_1); (try clear hfz21_2); (try clear hfz21_3); (try clear hfz21_4); (try clear hfz21_5); (try clear hfz21_6); (try clear hfz24_0); (try clear hfz24_1); (try clear hfz24_2); (try clear hfz24_3); (try clear hfz24_4); (try clear hfz24_5); (try clear hfz24_6); (try clear hfz27_0); (try clear hfz27_1); (try clear hfz27_2); (try clear hfz27_3); (try clear hfz27_4); (try clear hfz27_5); (try clear hfz27_6); (try clear hfz35_0); (try clear hfz35_1); (try clear hfz35_2); (try clear hfz35_3); (try clear hfz35_4); (try clear hfz35_5); (try clear hfz35_6); (try clear hfz37_0); (try clear hfz37_1); (try clear hfz37_2); (try clear hfz37_3); (try clear hfz37_4); (try clear hfz37_5); (try clear hfz37_6); (try clear hfz42_0); (try clear hfz42_1); (try clear hfz42_2); (try clear hfz42_3); (try clear hfz42_4); (try clear hfz42_5); (try clear hfz42_6); (try clear hfz4_0); (try clear hfz4_1); (try clear hfz4_2); (try clear hfz4_3); (try clear hfz4_4); (try clear hfz4_5); (try clear hfz4_6); (try clear hfz61_0); (try clear hfz61_1); (try clear hfz61_2); (try clear hfz61_3); (try clear hfz61_4); (try clear hfz61_5); (try clear hfz61_6); (try clear hx102_0); (try clear hx104_0); (try clear hx110_0); (try clear hx113_0); (try clear hx121_0); (try clear hx122_0); (try clear hx123_0); (try clear hx132_0); (try clear p1); (try clear p10); (try clear p102); (try clear p104); (try clear p11); (try clear p110); (try clear p113); (try clear p12); (try clear p121); (try clear p122); (try clear p123); (try clear p132); (try clear p2); (try clear q1); (try clear q10); (try clear q102); (try clear q104); (try clear q11); (try clear q110); (try clear q113); (try clear q12); (try clear q121); (try clear q122); (try clear q123); (try clear q132); (try clear q15); (try clear q3); (try clear q39); (try clear q5); (try clear q57); (obtain ⟨kq, x89_61, rfl, HA, HJ61, HO_6, HO_104004, BK101, BK103, HB⟩ := hcut)
        cases kq with
        | zero => exact absurd HA.out (by simp [impl_fieldOfWords.j4])
        | succ kj61 =>
         (have H := HA.out); clear HA; (simp only [impl_fieldOfWords.j4] at H); (by_cases c67 : x89_61 = true)
         ·subst c67
          (rw [if_pos rfl] at H); (by_cases c68 : 1 ≤ (x6_7.length : Int))
          ·rw [if_pos c68] at H
           (have c68b0 := eq_true c68); (have c68b1 : decide (1 ≤ (x6_7.length : Int)) = true := decide_eq_true c68); clear c68; (obtain ⟨y133, hy133⟩ : ∃ y_ : List ByteArray, y_ = (x6_7.drop 1) := ⟨_, rfl⟩); (replace H : (if (y133.length : Int) = 2 then (if 1 < (y133.length : Int) then (some ((rdOf ByteArray.empty l0 0), x104001_7, x104002_7, x104003_7, x104004_7, true, rdOf ByteArray.empty y133 1, true)) else (none)) else (some ((rdOf ByteArray.empty l0 0), x104001_7, x104002_7, x104003_7, x104004_7, true, (⟨#[]⟩ : ByteArray), true))) = some (r1, r2, r3, r4, r5, r6, r7, r8) := by first | (rw [hy133]; with_reducible exact H) | (have H2_ := (Option.bind_some _ _).symm.trans H; rw [hy133]; with_reducible exact H2_) | (have H2_ := (Option.bind_some _ _).symm.trans H; with_reducible exact H2_) | with_reducible exact H | (rw [hy133]; exact H) | exact H); (have Ny133 := Aside0.mk hy133); clear hy133; (by_cases c69 : (y133.length : Int) = 2)
           ·rw [if_pos c69] at H
            (have c69b0 : ((y133.length : Int) == 2) = true := beq_iff_eq.mpr c69); (have c69b1 : ((y133.length : Int) != 2) = false := bne_eq_false_iff_eq.mpr c69); clear c69; (by_cases c70 : 1 < (y133.length : Int))
            ·rw [if_pos c70] at H
             (have c70b0 : decide (1 < (y133.length : Int)) = true := decide_eq_true c70); (have c70b1 : decide (1 < y133.length) = true := decide_eq_true (by omega)); clear c70; (simp only [Option.some.injEq, Prod.mk.injEq] at H); (obtain ⟨rfl, rfl, rfl, rfl, rfl, rfl, rfl, rfl⟩ := H); (have hnb71 := NB103_101.out); (have hnc71 := NB101_103.out); (have hcz72_0 := cz BK103.out 0); (have hcz72_1 := cz BK103.out 1); (have hcz72_2 := cz BK103.out 2); (have hcz72_3 := cz BK103.out 3); (have hcz72_4 := cz BK103.out 4); (have hcz72_5 := cz BK103.out 5); (have hcz72_6 := cz BK103.out 6); (have hfz72_0 := blk_frozen BK103.out 0); (have hfz72_1 := blk_frozen BK103.out 1); (have hfz72_2 := blk_frozen BK103.out 2); (have hfz72_3 := blk_frozen BK103.out 3); (have hfz72_4 := blk_frozen BK103.out 4); (have hfz72_5 := blk_frozen BK103.out 5); (have hfz72_6 := blk_frozen BK103.out 6)
             go_wp2_with (first | ((with_reducible refine gate_store (t := 4) (p := 90) rfl ?_); refine store_event (t := 4) (p := 90) (v := ?vo_w73) (w1 := (wc.setCell ⟨gb103, 5, none⟩ (.bool true))) ?hg ?ho ?hn ?hr ?_; (case ho => rfl); (case hg => rfl); (case hn => rfl); (case hr => first | (go_simp; done) | (go_simp; rfl)); intro w73 hw; have n0_ : Aside0 (Kd.V Kd.string 9 w73 w.heap.size (fun k_ => (P0_ k_ ∨ w.heap.size ≤ k_) ∧ some k_ ≠ (u104004 : Value).ownBlock ∧ k_ ≠ gb101 ∧ k_ ≠ gb103) u6 x6_7) := ⟨(by rw [hw]; exact (by (with_reducible repeat (first | apply Kd.V_alloc | apply Kd.V_drewN | apply Kd.V_drew)); exact Kd.V_mono (Kd.V_far (p := ⟨gb103, 5, none⟩) (Kd.V_mono HO_6.out (fun k_ hk => (⟨hk, hk.2.2.2⟩ : _ ∧ k_ ≠ gb103))) (fun _ hk => hk.2) (.bool true)) (fun _ hk => ⟨hk.1.1, ⟨hk.1.2.1, ⟨hk.1.2.2.1, hk.1.2.2.2⟩⟩⟩)))⟩; have n1_ : Aside0 (Kd.R Kd.string 9 w73 w.heap.size (fun k_ => (w.heap.size ≤ k_)) u104004 x104004_7) := ⟨(by rw [hw]; exact (by (with_reducible repeat (first | apply rA | apply rN | apply rD)); exact Kd.R_mono (Kd.R_far (p := ⟨gb103, 5, none⟩) (Kd.R_types HO_104004.out BK103.out (by decide)) (fun _ hk => hk.2) (.bool true)) (fun _ hk => hk.1)))⟩; have n2_ : Aside0 (w73.heap[gb101]? = some (.cells #[.string x102000_7, .int .i64 x102001_7, .int .i64 x102002_7, .int .i64 x102003_7, .slice none 0 0, .bool x102005_7, .string x102006_7] 31 (0, 0))) := ⟨(by rw [hw]; exact (by (with_reducible repeat (first | refine kN ?_ _ | refine kD ?_ | refine kA ?_ _)); refine blk_far ?_ NB101_103.out _; (with_reducible repeat (first | refine kN ?_ _ | refine kD ?_ | refine kA ?_ _)); exact BK101.out))⟩; have n3_ : Aside0 (w73.heap[gb103]? = some (.cells #[.string (rdOf ByteArray.empty l0 0), .int .i64 x104001_7, .int .i64 x104002_7, .int .i64 x104003_7, u104004, .bool true, .string (⟨#[]⟩ : ByteArray)] 31 (0, 0))) := ⟨(by rw [hw]; exact (by (with_reducible repeat (first | refine kN ?_ _ | refine kD ?_ | refine kA ?_ _)); refine blk_put (cs := #[.string (rdOf ByteArray.empty l0 0), .int .i64 x104001_7, .int .i64 x104002_7, .int .i64 x104003_7, u104004, .bool false, .string (⟨#[]⟩ : ByteArray)]) ?_ 5 _ rfl; (with_reducible repeat (first | refine kN ?_ _ | refine kD ?_ | refine kA ?_ _)); exact BK103.out))⟩; have n4_ : Aside0 (Below w.heap.size w w73) := ⟨(by rw [hw]; exact (by repeat (first | (with_reducible first | exact HB.out | apply bA | apply bN | apply bD | refine below_set ?_ GE101.out | refine below_set ?_ GE103.out) | exact HB.out)))⟩; clear hw HO_6 HO_104004 BK101 BK103 HB; have HO_6 := n0_; have HO_104004 := n1_; have BK101 := n2_; have BK103 := n3_; have HB := n4_; clear n0_ n1_ n2_ n3_ n4_; obtain ⟨Ao75, co75, eo75⟩ := Kd.V_slice HO_6.out; subst eo75; have q74 : (1 : Int) ≤ ((x6_7.length : Int) : Int) := of_decide_eq_true (by first | (with_reducible assumption) | assumption); obtain ⟨i074, hi074, _, hsz74, _⟩ := info_parts info9; have hroom74 : x6_7.length ≤ co75 := (Kd.V_reads' HO_6.out).2.1; have hC74 : Kd.F Kd.string _ _ Ao75 x6_7.length x6_7 := (Kd.V_at (base := w.heap.size) HO_6.out).2.2; have hcut74 := cut_from (P := Tryd.prog) 28 9 .i64 Tryd.underlying28 hi074 1 hsz74 Ao75 x6_7.length co75 1 (by omega) q74; have hr74 := Kd.F_cut (m := (1 : Int).toNat) (c := co75) hC74 (by omega) hroom74; obtain ⟨A74, hA74⟩ : ∃ A1, A1 = (if co75 = (1 : Int).toNat then Ao75 else (Ao75 : Option Addr).map (·.add ((1 : Int).toNat * 1))) := ⟨_, rfl⟩; obtain ⟨c74, hc74⟩ : ∃ c1, c1 = co75 - (1 : Int).toNat := ⟨_, rfl⟩; have hy74 : y133.length = x6_7.length - (1 : Int).toNat := (by rw [Ny133.out, List.length_drop] <;> omega); rw [show (x6_7).drop (1 : Int).toNat = y133 from Ny133.out.symm] at hr74; replace hr74 : Kd.F Kd.string _ _ A74 y133.length y133 := (by rw [hA74]; exact hr74); rw [← hy74, ← hA74, ← hc74] at hcut74; have HO137 := Aside0.mk (show Kd.V Kd.string 9 _ w.heap.size _ (.slice A74 y133.length c74) y133 from Kd.V_mk (by rw [hy74, hc74]; exact Nat.sub_le_sub_right hroom74 _) hr74); have HC137 := Aside0.mk (show y133.length ≤ c74 from by rw [hy74, hc74]; exact Nat.sub_le_sub_right hroom74 _); clear hr74 hC74 hroom74 hi074 hsz74 hc74; have KY74 := Aside0.mk hy74; have KA74 := Aside0.mk hA74; clear hy74 hA74; replace q74 := eq_true q74; have p138 : 0 ≤ (1 : Int) := (by omega); have q138 : 1 < (y133.length : Int) := of_decide_eq_true (by first | (with_reducible assumption) | assumption); obtain ⟨ad138, e138, hx138_0⟩ := Kd.at_string (Kd.V_reads' HO137.out).2.2 1 p138 q138; cases e138; (try simp only [show (1 : Int).toNat = 1 from rfl, Nat.reduceMul, Nat.reduceEqDiff, Go.Addr.add, ↓reduceIte] at hx138_0); have qi138 : (1 < y133.length) = True := eq_true (by omega); (try rw [show ((1 : Int)).toNat = 1 from rfl] at hx138_0); replace p138 := eq_true p138; replace q138 := eq_true q138; have hcz76_0 := cz BK103.out 0; have hcz76_1 := cz BK103.out 1; have hcz76_2 := cz BK103.out 2; have hcz76_3 := cz BK103.out 3; have hcz76_4 := cz BK103.out 4; have hcz76_5 := cz BK103.out 5; have hcz76_6 := cz BK103.out 6; have hfz76_0 := blk_frozen BK103.out 0; have hfz76_1 := blk_frozen BK103.out 1; have hfz76_2 := blk_frozen BK103.out 2; have hfz76_3 := blk_frozen BK103.out 3; have hfz76_4 := blk_frozen BK103.out 4; have hfz76_5 := blk_frozen BK103.out 5; have hfz76_6 := blk_frozen BK103.out 6; have hcz77_0 := cz BK101.out 0; have hcz77_1 := cz BK101.out 1; have hcz77_2 := cz BK101.out 2; have hcz77_3 := cz BK101.out 3; have hcz77_4 := cz BK101.out 4; have hcz77_5 := cz BK101.out 5; have hcz77_6 := cz BK101.out 6; have hfz77_0 := blk_frozen BK101.out 0; have hfz77_1 := blk_frozen BK101.out 1; have hfz77_2 := blk_frozen BK101.out 2; have hfz77_3 := blk_frozen BK101.out 3; have hfz77_4 := blk_frozen BK101.out 4; have hfz77_5 := blk_frozen BK101.out 5; have hfz77_6 := blk_frozen BK101.out 6; obtain ⟨Ao78, co78, eo78⟩ := Kd.R_slice HO_104004.out; subst eo78))
             (refine bodyPost_ret (results_ct rfl _ _ gb101 31 #[.string (rdOf ByteArray.empty l0 0), .int .i64 x104001_7, .int .i64 x104002_7, .int .i64 x104003_7, .slice Ao78 x104004_7.length co78, .bool true, .string (rdOf ByteArray.empty y133 1)] (0, 0) _ rfl (by (with_reducible repeat (first | refine kN ?_ _ | refine kD ?_ | refine kA ?_ _)); refine blk_put (cs := #[.string (rdOf ByteArray.empty l0 0), .int .i64 x104001_7, .int .i64 x104002_7, .int .i64 x104003_7, .slice Ao78 x104004_7.length co78, .bool true, .string x102006_7]) ?_ 6 _ rfl; (with_reducible repeat (first | refine kN ?_ _ | refine kD ?_ | refine kA ?_ _)); refine blk_put (cs := #[.string (rdOf ByteArray.empty l0 0), .int .i64 x104001_7, .int .i64 x104002_7, .int .i64 x104003_7, .slice Ao78 x104004_7.length co78, .bool x102005_7, .string x102006_7]) ?_ 5 _ rfl; (with_reducible repeat (first | refine kN ?_ _ | refine kD ?_ | refine kA ?_ _)); refine blk_put (cs := #[.string (rdOf ByteArray.empty l0 0), .int .i64 x104001_7, .int .i64 x104002_7, .int .i64 x104003_7, .slice none 0 0, .bool x102005_7, .string x102006_7]) ?_ 4 _ rfl; (with_reducible repeat (first | refine kN ?_ _ | refine kD ?_ | refine kA ?_ _)); refine blk_put (cs := #[.string (rdOf ByteArray.empty l0 0), .int .i64 x104001_7, .int .i64 x104002_7, .int .i64 x102003_7, .slice none 0 0, .bool x102005_7, .string x102006_7]) ?_ 3 _ rfl; (with_reducible repeat (first | refine kN ?_ _ | refine kD ?_ | refine kA ?_ _)); refine blk_put (cs := #[.string (rdOf ByteArray.empty l0 0), .int .i64 x104001_7, .int .i64 x102002_7, .int .i64 x102003_7, .slice none 0 0, .bool x102005_7, .string x102006_7]) ?_ 2 _ rfl; (with_reducible repeat (first | refine kN ?_ _ | refine kD ?_ | refine kA ?_ _)); refine blk_put (cs := #[.string (rdOf ByteArray.empty l0 0), .int .i64 x102001_7, .int .i64 x102002_7, .int .i64 x102003_7, .slice none 0 0, .bool x102005_7, .string x102006_7]) ?_ 1 _ rfl; (with_reducible repeat (first | refine kN ?_ _ | refine kD ?_ | refine kA ?_ _)); refine blk_put (cs := #[.string x102000_7, .int .i64 x102001_7, .int .i64 x102002_7, .int .i64 x102003_7, .slice none 0 0, .bool x102005_7, .string x102006_7]) ?_ 0 _ rfl; (with_reducible repeat (first | refine kN ?_ _ | refine kD ?_ | refine kA ?_ _)); refine blk_far ?_ NB101_103.out _; (with_reducible repeat (first | refine kN ?_ _ | refine kD ?_ | refine kA ?_ _)); exact BK101.out) Tryd.underlying31 rfl (by kernel_rfl)) rfl ?_); (exact ⟨_, by first | rfl | (simp [errW_none, errW_some] <;> rfl) | (simp [*, errW_none, errW_some] <;> rfl), by (with_reducible repeat (first | apply rA | apply rN | apply rD)); exact Kd.R_mono (Kd.R_far (p := ⟨gb101, 6, none⟩) (Kd.R_far (p := ⟨gb101, 5, none⟩) (Kd.R_far (p := ⟨gb101, 4, none⟩) (Kd.R_far (p := ⟨gb101, 3, none⟩) (Kd.R_far (p := ⟨gb101, 2, none⟩) (Kd.R_far (p := ⟨gb101, 1, none⟩) (Kd.R_far (p := ⟨gb101, 0, none⟩) (Kd.R_far (p := ⟨gb103, 6, none⟩) (Kd.R_types (Kd.R_types HO_104004.out BK103.out (by decide)) BK101.out (by decide)) (fun _ hk => hk.1.2) (.string (rdOf ByteArray.empty y133 1))) (fun _ hk => hk.2) (.string (rdOf ByteArray.empty l0 0))) (fun _ hk => hk.2) (.int .i64 x104001_7)) (fun _ hk => hk.2) (.int .i64 x104002_7)) (fun _ hk => hk.2) (.int .i64 x104003_7)) (fun _ hk => hk.2) (.slice Ao78 x104004_7.length co78)) (fun _ hk => hk.2) (.bool true)) (fun _ hk => hk.2) (.string (rdOf ByteArray.empty y133 1))) (fun _ hk => hk.1.1), by repeat (first | (with_reducible first | exact HB.out | apply bA | apply bN | apply bD | refine below_set ?_ GE101.out | refine below_set ?_ GE103.out) | exact HB.out)⟩)
            ·rw [if_neg c70] at H
             exact absurd H (by simp)
           ·rw [if_neg c69] at H
            (have c69b0 : ((y133.length : Int) == 2) = false := beq_eq_false_iff_ne.mpr c69); (have c69b1 : ((y133.length : Int) != 2) = true := bne_iff_ne.mpr c69); (simp only [Option.some.injEq, Prod.mk.injEq] at H); (obtain ⟨rfl, rfl, rfl, rfl, rfl, rfl, rfl, rfl⟩ := H); (have hnb79 := NB103_101.out); (have hnc79 := NB101_103.out); (have hcz80_0 := cz BK103.out 0); (have hcz80_1 := cz BK103.out 1); (have hcz80_2 := cz BK103.out 2); (have hcz80_3 := cz BK103.out 3); (have hcz80_4 := cz BK103.out 4); (have hcz80_5 := cz BK103.out 5); (have hcz80_6 := cz BK103.out 6); (have hfz80_0 := blk_frozen BK103.out 0); (have hfz80_1 := blk_frozen BK103.out 1); (have hfz80_2 := blk_frozen BK103.out 2); (have hfz80_3 := blk_frozen BK103.out 3); (have hfz80_4 := blk_frozen BK103.out 4); (have hfz80_5 := blk_frozen BK103.out 5); (have hfz80_6 := blk_frozen BK103.out 6)
            go_wp2_with (first | ((with_reducible refine gate_store (t := 4) (p := 90) rfl ?_); refine store_event (t := 4) (p := 90) (v := ?vo_w81) (w1 := (wc.setCell ⟨gb103, 5, none⟩ (.bool true))) ?hg ?ho ?hn ?hr ?_; (case ho => rfl); (case hg => rfl); (case hn => rfl); (case hr => first | (go_simp; done) | (go_simp; rfl)); intro w81 hw; have n0_ : Aside0 (Kd.V Kd.string 9 w81 w.heap.size (fun k_ => (P0_ k_ ∨ w.heap.size ≤ k_) ∧ some k_ ≠ (u104004 : Value).ownBlock ∧ k_ ≠ gb101 ∧ k_ ≠ gb103) u6 x6_7) := ⟨(by rw [hw]; exact (by (with_reducible repeat (first | apply Kd.V_alloc | apply Kd.V_drewN | apply Kd.V_drew)); exact Kd.V_mono (Kd.V_far (p := ⟨gb103, 5, none⟩) (Kd.V_mono HO_6.out (fun k_ hk => (⟨hk, hk.2.2.2⟩ : _ ∧ k_ ≠ gb103))) (fun _ hk => hk.2) (.bool true)) (fun _ hk => ⟨hk.1.1, ⟨hk.1.2.1, ⟨hk.1.2.2.1, hk.1.2.2.2⟩⟩⟩)))⟩; have n1_ : Aside0 (Kd.R Kd.string 9 w81 w.heap.size (fun k_ => (w.heap.size ≤ k_)) u104004 x104004_7) := ⟨(by rw [hw]; exact (by (with_reducible repeat (first | apply rA | apply rN | apply rD)); exact Kd.R_mono (Kd.R_far (p := ⟨gb103, 5, none⟩) (Kd.R_types HO_104004.out BK103.out (by decide)) (fun _ hk => hk.2) (.bool true)) (fun _ hk => hk.1)))⟩; have n2_ : Aside0 (w81.heap[gb101]? = some (.cells #[.string x102000_7, .int .i64 x102001_7, .int .i64 x102002_7, .int .i64 x102003_7, .slice none 0 0, .bool x102005_7, .string x102006_7] 31 (0, 0))) := ⟨(by rw [hw]; exact (by (with_reducible repeat (first | refine kN ?_ _ | refine kD ?_ | refine kA ?_ _)); refine blk_far ?_ NB101_103.out _; (with_reducible repeat (first | refine kN ?_ _ | refine kD ?_ | refine kA ?_ _)); exact BK101.out))⟩; have n3_ : Aside0 (w81.heap[gb103]? = some (.cells #[.string (rdOf ByteArray.empty l0 0), .int .i64 x104001_7, .int .i64 x104002_7, .int .i64 x104003_7, u104004, .bool true, .string (⟨#[]⟩ : ByteArray)] 31 (0, 0))) := ⟨(by rw [hw]; exact (by (with_reducible repeat (first | refine kN ?_ _ | refine kD ?_ | refine kA ?_ _)); refine blk_put (cs := #[.string (rdOf ByteArray.empty l0 0), .int .i64 x104001_7, .int .i64 x104002_7, .int .i64 x104003_7, u104004, .bool false, .string (⟨#[]⟩ : ByteArray)]) ?_ 5 _ rfl; (with_reducible repeat (first | refine kN ?_ _ | refine kD ?_ | refine kA ?_ _)); exact BK103.out))⟩; have n4_ : Aside0 (Below w.heap.size w w81) := ⟨(by rw [hw]; exact (by repeat (first | (with_reducible first | exact HB.out | apply bA | apply bN | apply bD | refine below_set ?_ GE101.out | refine below_set ?_ GE103.out) | exact HB.out)))⟩; clear hw HO_6 HO_104004 BK101 BK103 HB; have HO_6 := n0_; have HO_104004 := n1_; have BK101 := n2_; have BK103 := n3_; have HB := n4_; clear n0_ n1_ n2_ n3_ n4_; obtain ⟨Ao83, co83, eo83⟩ := Kd.V_slice HO_6.out; subst eo83; have q82 : (1 : Int) ≤ ((x6_7.length : Int) : Int) := of_decide_eq_true (by first | (with_reducible assumption) | assumption); obtain ⟨i082, hi082, _, hsz82, _⟩ := info_parts info9; have hroom82 : x6_7.length ≤ co83 := (Kd.V_reads' HO_6.out).2.1; have hC82 : Kd.F Kd.string _ _ Ao83 x6_7.length x6_7 := (Kd.V_at (base := w.heap.size) HO_6.out).2.2; have hcut82 := cut_from (P := Tryd.prog) 28 9 .i64 Tryd.underlying28 hi082 1 hsz82 Ao83 x6_7.length co83 1 (by omega) q82; have hr82 := Kd.F_cut (m := (1 : Int).toNat) (c := co83) hC82 (by omega) hroom82; obtain ⟨A82, hA82⟩ : ∃ A1, A1 = (if co83 = (1 : Int).toNat then Ao83 else (Ao83 : Option Addr).map (·.add ((1 : Int).toNat * 1))) := ⟨_, rfl⟩; obtain ⟨c82, hc82⟩ : ∃ c1, c1 = co83 - (1 : Int).toNat := ⟨_, rfl⟩; have hy82 : y133.length = x6_7.length - (1 : Int).toNat := (by rw [Ny133.out, List.length_drop] <;> omega); rw [show (x6_7).drop (1 : Int).toNat = y133 from Ny133.out.symm] at hr82; replace hr82 : Kd.F Kd.string _ _ A82 y133.length y133 := (by rw [hA82]; exact hr82); rw [← hy82, ← hA82, ← hc82] at hcut82; have HO137 := Aside0.mk (show Kd.V Kd.string 9 _ w.heap.size _ (.slice A82 y133.length c82) y133 from Kd.V_mk (by rw [hy82, hc82]; exact Nat.sub_le_sub_right hroom82 _) hr82); have HC137 := Aside0.mk (show y133.length ≤ c82 from by rw [hy82, hc82]; exact Nat.sub_le_sub_right hroom82 _); clear hr82 hC82 hroom82 hi082 hsz82 hc82; have KY82 := Aside0.mk hy82; have KA82 := Aside0.mk hA82; clear hy82 hA82; replace q82 := eq_true q82; have hcz84_0 := cz BK103.out 0; have hcz84_1 := cz BK103.out 1; have hcz84_2 := cz BK103.out 2; have hcz84_3 := cz BK103.out 3; have hcz84_4 := cz BK103.out 4; have hcz84_5 := cz BK103.out 5; have hcz84_6 := cz BK103.out 6; have hfz84_0 := blk_frozen BK103.out 0; have hfz84_1 := blk_frozen BK103.out 1; have hfz84_2 := blk_frozen BK103.out 2; have hfz84_3 := blk_frozen BK103.out 3; have hfz84_4 := blk_frozen BK103.out 4; have hfz84_5 := blk_frozen BK103.out 5; have hfz84_6 := blk_frozen BK103.out 6; have hcz85_0 := cz BK101.out 0; have hcz85_1 := cz BK101.out 1; have hcz85_2 := cz BK101.out 2; have hcz85_3 := cz BK101.out 3; have hcz85_4 := cz BK101.out 4; have hcz85_5 := cz BK101.out 5; have hcz85_6 := cz BK101.out 6; have hfz85_0 := blk_frozen BK101.out 0; have hfz85_1 := blk_frozen BK101.out 1; have hfz85_2 := blk_frozen BK101.out 2; have hfz85_3 := blk_frozen BK101.out 3; have hfz85_4 := blk_frozen BK101.out 4; have hfz85_5 := blk_frozen BK101.out 5; have hfz85_6 := blk_frozen BK101.out 6; obtain ⟨Ao86, co86, eo86⟩ := Kd.R_slice HO_104004.out; subst eo86))
            (refine bodyPost_ret (results_ct rfl _ _ gb101 31 #[.string (rdOf ByteArray.empty l0 0), .int .i64 x104001_7, .int .i64 x104002_7, .int .i64 x104003_7, .slice Ao86 x104004_7.length co86, .bool true, .string (⟨#[]⟩ : ByteArray)] (0, 0) _ rfl (by (with_reducible repeat (first | refine kN ?_ _ | refine kD ?_ | refine kA ?_ _)); refine blk_put (cs := #[.string (rdOf ByteArray.empty l0 0), .int .i64 x104001_7, .int .i64 x104002_7, .int .i64 x104003_7, .slice Ao86 x104004_7.length co86, .bool true, .string x102006_7]) ?_ 6 _ rfl; (with_reducible repeat (first | refine kN ?_ _ | refine kD ?_ | refine kA ?_ _)); refine blk_put (cs := #[.string (rdOf ByteArray.empty l0 0), .int .i64 x104001_7, .int .i64 x104002_7, .int .i64 x104003_7, .slice Ao86 x104004_7.length co86, .bool x102005_7, .string x102006_7]) ?_ 5 _ rfl; (with_reducible repeat (first | refine kN ?_ _ | refine kD ?_ | refine kA ?_ _)); refine blk_put (cs := #[.string (rdOf ByteArray.empty l0 0), .int .i64 x104001_7, .int .i64 x104002_7, .int .i64 x104003_7, .slice none 0 0, .bool x102005_7, .string x102006_7]) ?_ 4 _ rfl; (with_reducible repeat (first | refine kN ?_ _ | refine kD ?_ | refine kA ?_ _)); refine blk_put (cs := #[.string (rdOf ByteArray.empty l0 0), .int .i64 x104001_7, .int .i64 x104002_7, .int .i64 x102003_7, .slice none 0 0, .bool x102005_7, .string x102006_7]) ?_ 3 _ rfl; (with_reducible repeat (first | refine kN ?_ _ | refine kD ?_ | refine kA ?_ _)); refine blk_put (cs := #[.string (rdOf ByteArray.empty l0 0), .int .i64 x104001_7, .int .i64 x102002_7, .int .i64 x102003_7, .slice none 0 0, .bool x102005_7, .string x102006_7]) ?_ 2 _ rfl; (with_reducible repeat (first | refine kN ?_ _ | refine kD ?_ | refine kA ?_ _)); refine blk_put (cs := #[.string (rdOf ByteArray.empty l0 0), .int .i64 x102001_7, .int .i64 x102002_7, .int .i64 x102003_7, .slice none 0 0, .bool x102005_7, .string x102006_7]) ?_ 1 _ rfl; (with_reducible repeat (first | refine kN ?_ _ | refine kD ?_ | refine kA ?_ _)); refine blk_put (cs := #[.string x102000_7, .int .i64 x102001_7, .int .i64 x102002_7, .int .i64 x102003_7, .slice none 0 0, .bool x102005_7, .string x102006_7]) ?_ 0 _ rfl; (with_reducible repeat (first | refine kN ?_ _ | refine kD ?_ | refine kA ?_ _)); exact BK101.out) Tryd.underlying31 rfl (by kernel_rfl)) rfl ?_); (exact ⟨_, by first | rfl | (simp [errW_none, errW_some] <;> rfl) | (simp [*, errW_none, errW_some] <;> rfl), by (with_reducible repeat (first | apply rA | apply rN | apply rD)); exact Kd.R_mono (Kd.R_far (p := ⟨gb101, 6, none⟩) (Kd.R_far (p := ⟨gb101, 5, none⟩) (Kd.R_far (p := ⟨gb101, 4, none⟩) (Kd.R_far (p := ⟨gb101, 3, none⟩) (Kd.R_far (p := ⟨gb101, 2, none⟩) (Kd.R_far (p := ⟨gb101, 1, none⟩) (Kd.R_far (p := ⟨gb101, 0, none⟩) (Kd.R_types HO_104004.out BK101.out (by decide)) (fun _ hk => hk.2) (.string (rdOf ByteArray.empty l0 0))) (fun _ hk => hk.2) (.int .i64 x104001_7)) (fun _ hk => hk.2) (.int .i64 x104002_7)) (fun _ hk => hk.2) (.int .i64 x104003_7)) (fun _ hk => hk.2) (.slice Ao86 x104004_7.length co86)) (fun _ hk => hk.2) (.bool true)) (fun _ hk => hk.2) (.string (⟨#[]⟩ : ByteArray))) (fun _ hk => hk.1), by repeat (first | (with_reducible first | exact HB.out | apply bA | apply bN | apply bD | refine below_set ?_ GE101.out | refine below_set ?_ GE103.out) | exact HB.out)⟩)
          ·rw [if_neg c68] at H
           exact absurd H (by simp)
         ·replace c67 := Bool.eq_false_iff.mpr c67
          subst c67; (rw [if_neg (show ¬ (false = true) by decide)] at H); (by_cases c87 : (x6_7.length : Int) = 2)
          ·rw [if_pos c87] at H
           (have c87b0 : ((x6_7.length : Int) == 2) = true := beq_iff_eq.mpr c87); (have c87b1 : ((x6_7.length : Int) != 2) = false := bne_eq_false_iff_eq.mpr c87); clear c87; (by_cases c88 : 1 < (x6_7.length : Int))
           ·rw [if_pos c88] at H
            (have c88b0 : decide (1 < (x6_7.length : Int)) = true := decide_eq_true c88); (have c88b1 : decide (1 < x6_7.length) = true := decide_eq_true (by omega)); clear c88; (simp only [Option.some.injEq, Prod.mk.injEq] at H); (obtain ⟨rfl, rfl, rfl, rfl, rfl, rfl, rfl, rfl⟩ := H); (obtain ⟨Ao89, co89, eo89⟩ := Kd.V_slice HO_6.out); subst eo89; (have p139 : 0 ≤ (1 : Int) := (by omega)); (have q139 : 1 < (x6_7.length : Int) := of_decide_eq_true (by first | (with_reducible assumption) | assumption)); (obtain ⟨ad139, e139, hx139_0⟩ := Kd.at_string (Kd.V_reads' HO_6.out).2.2 1 p139 q139); (cases e139); ((try simp only [show (1 : Int).toNat = 1 from rfl, Nat.reduceMul, Nat.reduceEqDiff, Go.Addr.add, ↓reduceIte] at hx139_0)); (have qi139 : (1 < x6_7.length) = True := eq_true (by omega)); ((try rw [show ((1 : Int)).toNat = 1 from rfl] at hx139_0)); (replace p139 := eq_true p139); (replace q139 := eq_true q139); (have hnb90 := NB103_101.out); (have hnc90 := NB101_103.out); (have hcz91_0 := cz BK103.out 0); (have hcz91_1 := cz BK103.out 1); (have hcz91_2 := cz BK103.out 2); (have hcz91_3 := cz BK103.out 3); (have hcz91_4 := cz BK103.out 4); (have hcz91_5 := cz BK103.out 5); (have hcz91_6 := cz BK103.out 6); (have hfz91_0 := blk_frozen BK103.out 0); (have hfz91_1 := blk_frozen BK103.out 1); (have hfz91_2 := blk_frozen BK103.out 2); (have hfz91_3 := blk_frozen BK103.out 3); (have hfz91_4 := blk_frozen BK103.out 4); (have hfz91_5 := blk_frozen BK103.out 5); (have hfz91_6 := blk_frozen BK103.out 6); (have hcz92_0 := cz BK101.out 0); (have hcz92_1 := cz BK101.out 1); (have hcz92_2 := cz BK101.out 2); (have hcz92_3 := cz BK101.out 3); (have hcz92_4 := cz BK101.out 4); (have hcz92_5 := cz BK101.out 5); (have hcz92_6 := cz BK101.out 6); (have hfz92_0 := blk_frozen BK101.out 0); (have hfz92_1 := blk_frozen BK101.out 1); (have hfz92_2 := blk_frozen BK101.out 2); (have hfz92_3 := blk_frozen BK101.out 3); (have hfz92_4 := blk_frozen BK101.out 4); (have hfz92_5 := blk_frozen BK101.out 5); (have hfz92_6 := blk_frozen BK101.out 6); (obtain ⟨Ao93, co93, eo93⟩ := Kd.R_slice HO_104004.out); subst eo93; (go_wp2); (refine bodyPost_ret (results_ct rfl _ _ gb101 31 #[.string (rdOf ByteArray.empty l0 0), .int .i64 x104001_7, .int .i64 x104002_7, .int .i64 x104003_7, .slice Ao93 x104004_7.length co93, .bool false, .string (rdOf ByteArray.empty x6_7 1)] (0, 0) _ rfl (by (with_reducible repeat (first | refine kN ?_ _ | refine kD ?_ | refine kA ?_ _)); refine blk_put (cs := #[.string (rdOf ByteArray.empty l0 0), .int .i64 x104001_7, .int .i64 x104002_7, .int .i64 x104003_7, .slice Ao93 x104004_7.length co93, .bool false, .string x102006_7]) ?_ 6 _ rfl; (with_reducible repeat (first | refine kN ?_ _ | refine kD ?_ | refine kA ?_ _)); refine blk_put (cs := #[.string (rdOf ByteArray.empty l0 0), .int .i64 x104001_7, .int .i64 x104002_7, .int .i64 x104003_7, .slice Ao93 x104004_7.length co93, .bool x102005_7, .string x102006_7]) ?_ 5 _ rfl; (with_reducible repeat (first | refine kN ?_ _ | refine kD ?_ | refine kA ?_ _)); refine blk_put (cs := #[.string (rdOf ByteArray.empty l0 0), .int .i64 x104001_7, .int .i64 x104002_7, .int .i64 x104003_7, .slice none 0 0, .bool x102005_7, .string x102006_7]) ?_ 4 _ rfl; (with_reducible repeat (first | refine kN ?_ _ | refine kD ?_ | refine kA ?_ _)); refine blk_put (cs := #[.string (rdOf ByteArray.empty l0 0), .int .i64 x104001_7, .int .i64 x104002_7, .int .i64 x102003_7, .slice none 0 0, .bool x102005_7, .string x102006_7]) ?_ 3 _ rfl; (with_reducible repeat (first | refine kN ?_ _ | refine kD ?_ | refine kA ?_ _)); refine blk_put (cs := #[.string (rdOf ByteArray.empty l0 0), .int .i64 x104001_7, .int .i64 x102002_7, .int .i64 x102003_7, .slice none 0 0, .bool x102005_7, .string x102006_7]) ?_ 2 _ rfl; (with_reducible repeat (first | refine kN ?_ _ | refine kD ?_ | refine kA ?_ _)); refine blk_put (cs := #[.string (rdOf ByteArray.empty l0 0), .int .i64 x102001_7, .int .i64 x102002_7, .int .i64 x102003_7, .slice none 0 0, .bool x102005_7, .string x102006_7]) ?_ 1 _ rfl; (with_reducible repeat (first | refine kN ?_ _ | refine kD ?_ | refine kA ?_ _)); refine blk_put (cs := #[.string x102000_7, .int .i64 x102001_7, .int .i64 x102002_7, .int .i64 x102003_7, .slice none 0 0, .bool x102005_7, .string x102006_7]) ?_ 0 _ rfl; (with_reducible repeat (first | refine kN ?_ _ | refine kD ?_ | refine kA ?_ _)); refine blk_far ?_ NB101_103.out _; (with_reducible repeat (first | refine kN ?_ _ | refine kD ?_ | refine kA ?_ _)); exact BK101.out) Tryd.underlying31 rfl (by kernel_rfl)) rfl ?_); (exact ⟨_, by first | rfl | (simp [errW_none, errW_some] <;> rfl) | (simp [*, errW_none, errW_some] <;> rfl), by (with_reducible repeat (first | apply rA | apply rN | apply rD)); exact Kd.R_mono (Kd.R_far (p := ⟨gb101, 6, none⟩) (Kd.R_far (p := ⟨gb101, 5, none⟩) (Kd.R_far (p := ⟨gb101, 4, none⟩) (Kd.R_far (p := ⟨gb101, 3, none⟩) (Kd.R_far (p := ⟨gb101, 2, none⟩) (Kd.R_far (p := ⟨gb101, 1, none⟩) (Kd.R_far (p := ⟨gb101, 0, none⟩) (Kd.R_far (p := ⟨gb103, 6, none⟩) (Kd.R_types (Kd.R_types HO_104004.out BK103.out (by decide)) BK101.out (by decide)) (fun _ hk => hk.1.2) (.string (rdOf ByteArray.empty x6_7 1))) (fun _ hk => hk.2) (.string (rdOf ByteArray.empty l0 0))) (fun _ hk => hk.2) (.int .i64 x104001_7)) (fun _ hk => hk.2) (.int .i64 x104002_7)) (fun _ hk => hk.2) (.int .i64 x104003_7)) (fun _ hk => hk.2) (.slice Ao93 x104004_7.length co93)) (fun _ hk => hk.2) (.bool false)) (fun _ hk => hk.2) (.string (rdOf ByteArray.empty x6_7 1))) (fun _ hk => hk.1.1), by repeat (first | (with_reducible first | exact HB.out | apply bA | apply bN | apply bD | refine below_set ?_ GE101.out | refine below_set ?_ GE103.out) | exact HB.out)⟩)
           ·rw [if_neg c88] at H
            exact absurd H (by simp)
          ·rw [if_neg c87] at H
           (have c87b0 : ((x6_7.length : Int) == 2) = false := beq_eq_false_iff_ne.mpr c87); (have c87b1 : ((x6_7.length : Int) != 2) = true := bne_iff_ne.mpr c87); (simp only [Option.some.injEq, Prod.mk.injEq] at H); (obtain ⟨rfl, rfl, rfl, rfl, rfl, rfl, rfl, rfl⟩ := H); (obtain ⟨Ao94, co94, eo94⟩ := Kd.V_slice HO_6.out); subst eo94; (have hnb95 := NB103_101.out); (have hnc95 := NB101_103.out); (have hcz96_0 := cz BK103.out 0); (have hcz96_1 := cz BK103.out 1); (have hcz96_2 := cz BK103.out 2); (have hcz96_3 := cz BK103.out 3); (have hcz96_4 := cz BK103.out 4); (have hcz96_5 := cz BK103.out 5); (have hcz96_6 := cz BK103.out 6); (have hfz96_0 := blk_frozen BK103.out 0); (have hfz96_1 := blk_frozen BK103.out 1); (have hfz96_2 := blk_frozen BK103.out 2); (have hfz96_3 := blk_frozen BK103.out 3); (have hfz96_4 := blk_frozen BK103.out 4); (have hfz96_5 := blk_frozen BK103.out 5); (have hfz96_6 := blk_frozen BK103.out 6); (have hcz97_0 := cz BK101.out 0); (have hcz97_1 := cz BK101.out 1); (have hcz97_2 := cz BK101.out 2); (have hcz97_3 := cz BK101.out 3); (have hcz97_4 := cz BK101.out 4); (have hcz97_5 := cz BK101.out 5); (have hcz97_6 := cz BK101.out 6); (have hfz97_0 := blk_frozen BK101.out 0); (have hfz97_1 := blk_frozen BK101.out 1); (have hfz97_2 := blk_frozen BK101.out 2); (have hfz97_3 := blk_frozen BK101.out 3); (have hfz97_4 := blk_frozen BK101.out 4); (have hfz97_5 := blk_frozen BK101.out 5); (have hfz97_6 := blk_frozen BK101.out 6); (obtain ⟨Ao98, co98, eo98⟩ := Kd.R_slice HO_104004.out); subst eo98; (go_wp2); (refine bodyPost_ret (results_ct rfl _ _ gb101 31 #[.string (rdOf ByteArray.empty l0 0), .int .i64 x104001_7, .int .i64 x104002_7, .int .i64 x104003_7, .slice Ao98 x104004_7.length co98, .bool false, .string (⟨#[]⟩ : ByteArray)] (0, 0) _ rfl (by (with_reducible repeat (first | refine kN ?_ _ | refine kD ?_ | refine kA ?_ _)); refine blk_put (cs := #[.string (rdOf ByteArray.empty l0 0), .int .i64 x104001_7, .int .i64 x104002_7, .int .i64 x104003_7, .slice Ao98 x104004_7.length co98, .bool false, .string x102006_7]) ?_ 6 _ rfl; (with_reducible repeat (first | refine kN ?_ _ | refine kD ?_ | refine kA ?_ _)); refine blk_put (cs := #[.string (rdOf ByteArray.empty l0 0), .int .i64 x104001_7, .int .i64 x104002_7, .int .i64 x104003_7, .slice Ao98 x104004_7.length co98, .bool x102005_7, .string x102006_7]) ?_ 5 _ rfl; (with_reducible repeat (first | refine kN ?_ _ | refine kD ?_ | refine kA ?_ _)); refine blk_put (cs := #[.string (rdOf ByteArray.empty l0 0), .int .i64 x104001_7, .int .i64 x104002_7, .int .i64 x104003_7, .slice none 0 0, .bool x102005_7, .string x102006_7]) ?_ 4 _ rfl; (with_reducible repeat (first | refine kN ?_ _ | refine kD ?_ | refine kA ?_ _)); refine blk_put (cs := #[.string (rdOf ByteArray.empty l0 0), .int .i64 x104001_7, .int .i64 x104002_7, .int .i64 x102003_7, .slice none 0 0, .bool x102005_7, .string x102006_7]) ?_ 3 _ rfl; (with_reducible repeat (first | refine kN ?_ _ | refine kD ?_ | refine kA ?_ _)); refine blk_put (cs := #[.string (rdOf ByteArray.empty l0 0), .int .i64 x104001_7, .int .i64 x102002_7, .int .i64 x102003_7, .slice none 0 0, .bool x102005_7, .string x102006_7]) ?_ 2 _ rfl; (with_reducible repeat (first | refine kN ?_ _ | refine kD ?_ | refine kA ?_ _)); refine blk_put (cs := #[.string (rdOf ByteArray.empty l0 0), .int .i64 x102001_7, .int .i64 x102002_7, .int .i64 x102003_7, .slice none 0 0, .bool x102005_7, .string x102006_7]) ?_ 1 _ rfl; (with_reducible repeat (first | refine kN ?_ _ | refine kD ?_ | refine kA ?_ _)); refine blk_put (cs := #[.string x102000_7, .int .i64 x102001_7, .int .i64 x102002_7, .int .i64 x102003_7, .slice none 0 0, .bool x102005_7, .string x102006_7]) ?_ 0 _ rfl; (with_reducible repeat (first | refine kN ?_ _ | refine kD ?_ | refine kA ?_ _)); exact BK101.out) Tryd.underlying31 rfl (by kernel_rfl)) rfl ?_); (exact ⟨_, by first | rfl | (simp [errW_none, errW_some] <;> rfl) | (simp [*, errW_none, errW_some] <;> rfl), by (with_reducible repeat (first | apply rA | apply rN | apply rD)); exact Kd.R_mono (Kd.R_far (p := ⟨gb101, 6, none⟩) (Kd.R_far (p := ⟨gb101, 5, none⟩) (Kd.R_far (p := ⟨gb101, 4, none⟩) (Kd.R_far (p := ⟨gb101, 3, none⟩) (Kd.R_far (p := ⟨gb101, 2, none⟩) (Kd.R_far (p := ⟨gb101, 1, none⟩) (Kd.R_far (p := ⟨gb101, 0, none⟩) (Kd.R_types HO_104004.out BK101.out (by decide)) (fun _ hk => hk.2) (.string (rdOf ByteArray.empty l0 0))) (fun _ hk => hk.2) (.int .i64 x104001_7)) (fun _ hk => hk.2) (.int .i64 x104002_7)) (fun _ hk => hk.2) (.int .i64 x104003_7)) (fun _ hk => hk.2) (.slice Ao98 x104004_7.length co98)) (fun _ hk => hk.2) (.bool false)) (fun _ hk => hk.2) (.string (⟨#[]⟩ : ByteArray))) (fun _ hk => hk.1), by repeat (first | (with_reducible first | exact HB.out | apply bA | apply bN | apply bD | refine below_set ?_ GE101.out | refine below_set ?_ GE103.out) | exact HB.out)⟩)
    ·rw [if_neg c7] at H
     exact absurd H (by simp)
   ·rw [if_neg c6] at H
    exact absurd H (by simp)
  ·rw [if_neg c5] at H
   exact absurd H (by simp)
/-! ### slices_Index_string_string: function 43 -/
def slices_Index_string_string.l0 : Nat → List ByteArray → ByteArray → Int → Int → Option (Int)
 | 0, _, _, _, _ => none
 | k + 1, x0, x1, x7, x8 => if x8 < x7 then (if 0 ≤ x8 then (if x8 < (x0.length : Int) then (if x1.toList = (rdOf ByteArray.empty x0 x8).toList then (some x8) else (slices_Index_string_string.l0 k x0 x1 x7 (wrap64 (x8 + 1)))) else (none)) else (none)) else (some (-1))
def slices_Index_string_string.f (k : Nat) (l0 : List ByteArray) (a1 : ByteArray) : Option (Int) := slices_Index_string_string.l0 k l0 a1 (l0.length : Int) 0
set_option maxHeartbeats 8000000 in
set_option maxRecDepth 100000 in
theorem slices_Index_string_string.calls (k : Nat) (A0 : Option Addr) (c0 : Nat) (l0 : List ByteArray) (a1 : ByteArray) (r : Int) (w : World) (hr0 : Kd.C Kd.string w A0 l0.length l0) (hc0 : l0.length ≤ c0) (h : slices_Index_string_string.f k l0 a1 = some r) :
  Calls Tryd.prog 43 #[.slice A0 l0.length c0, .string a1] w fun e w' => e = .returned (.int .i64 r) ∧ Drawn0 w w' := by
 (have HR0 := Aside0.mk hr0); (have HC0 := Aside0.mk hc0); clear hr0 hc0; (unfold slices_Index_string_string.f at h); (have H := h); clear h; (have H' := Aside0.mk H); clear H; (go_enter Tryd.func43, Tryd.ntmps43); (go_wp2); (go_loopg [8] k (fun kq v8 w' => ∃ (x8_1 : Int), v8 = .int .i64 x8_1 ∧ Aside0 (slices_Index_string_string.l0 kq l0 a1 (l0.length : Int) x8_1 = some r) ∧ Aside0 (kq ≤ k) ∧ Drawn0 w w'))
 case atStart => exact ⟨(0), (by first | rfl | (simp; done) | (simp [*]; done)), H', ⟨Nat.le_refl _⟩, by repeat (first | exact Drawn0.refl _ | apply Drawn0.step)⟩
 case round =>
  (clear H'); (try clear p2); (obtain ⟨x8_1, rfl, HA, HK1, ⟨m1, rfl⟩⟩ := hrel)
  cases gk with
  | zero => exact absurd HA.out (by simp [slices_Index_string_string.l0])
  | succ k1 =>
   (have H := HA.out); clear HA; (simp only [slices_Index_string_string.l0] at H); (by_cases c3 : x8_1 < (l0.length : Int))
   ·rw [if_pos c3] at H
    (have c3b0 := decide_eq_true c3); clear c3; (by_cases c4 : 0 ≤ x8_1)
    ·rw [if_pos c4] at H
     (have c4b0 := decide_eq_true c4); clear c4; (by_cases c5 : x8_1 < (l0.length : Int))
     ·rw [if_pos c5] at H
      (have c5b0 := decide_eq_true c5); clear c5; (by_cases c6 : a1.toList = (rdOf ByteArray.empty l0 x8_1).toList)
      ·rw [if_pos c6] at H
       (have c6b0 : (a1.toList == (rdOf ByteArray.empty l0 x8_1).toList) = true := beq_iff_eq.mpr c6); (have c6b1 : (a1.toList != (rdOf ByteArray.empty l0 x8_1).toList) = false := bne_eq_false_iff_eq.mpr c6); clear c6; (obtain rfl := Option.some.inj H); (have p101 : 0 ≤ (x8_1 : Int) := odt); (have q101 : x8_1 < (l0.length : Int) := odt); (obtain ⟨ad101, e101, hx101_0⟩ := Kd.at_string HR0.out x8_1 p101 q101); (cases e101); (replace p101 := eq_true p101); (replace q101 := eq_true q101); (go_wp2); go_ret; (exact ⟨by first | rfl | (simp; done) | (simp [*]; done), by repeat (first | exact Drawn0.refl _ | apply Drawn0.step)⟩)
      ·rw [if_neg c6] at H
       (have c6b0 : (a1.toList == (rdOf ByteArray.empty l0 x8_1).toList) = false := beq_eq_false_iff_ne.mpr c6); (have c6b1 : (a1.toList != (rdOf ByteArray.empty l0 x8_1).toList) = true := bne_iff_ne.mpr c6); (have H' := Aside0.mk H); clear H; (have p101 : 0 ≤ (x8_1 : Int) := odt); (have q101 : x8_1 < (l0.length : Int) := odt); (obtain ⟨ad101, e101, hx101_0⟩ := Kd.at_string HR0.out x8_1 p101 q101); (cases e101); (replace p101 := eq_true p101); (replace q101 := eq_true q101); (go_wp2); go_roundg k1
       case measure => have := HK1.out; omega
       case rel => exact ⟨(wrap64 (x8_1 + 1)), (by first | rfl | (simp; done) | (simp [*]; done)), H', ⟨by have := HK1.out; omega⟩, by repeat (first | exact Drawn0.refl _ | apply Drawn0.step)⟩
     ·rw [if_neg c5] at H
      exact absurd H (by simp)
    ·rw [if_neg c4] at H
     exact absurd H (by simp)
   ·rw [if_neg c3] at H
    (have c3b0 := decide_eq_false c3); clear c3; (obtain rfl := Option.some.inj H); (go_wp2); go_ret; (exact ⟨by first | rfl | (simp; done) | (simp [*]; done), by repeat (first | exact Drawn0.refl _ | apply Drawn0.step)⟩)
/-! ### slices_Contains_string_string: function 26 -/
def slices_Contains_string_string.f (k : Nat) (l0 : List ByteArray) (a1 : ByteArray) : Option (Bool) := (slices_Index_string_string.f k l0 a1).bind fun t101 => (some (decide (t101 ≥ 0)))
set_option maxHeartbeats 8000000 in
set_option maxRecDepth 100000 in
theorem slices_Contains_string_string.calls (k : Nat) (A0 : Option Addr) (c0 : Nat) (l0 : List ByteArray) (a1 : ByteArray) (r : Bool) (w : World) (hr0 : Kd.C Kd.string w A0 l0.length l0) (hc0 : l0.length ≤ c0) (h : slices_Contains_string_string.f k l0 a1 = some r) :
  Calls Tryd.prog 26 #[.slice A0 l0.length c0, .string a1] w fun e w' => e = .returned (.bool r) ∧ Drawn0 w w' := by
 (have HR0 := Aside0.mk hr0); (have HC0 := Aside0.mk hc0); clear hr0 hc0; (unfold slices_Contains_string_string.f at h); (have H := h); clear h; (replace H := obS H); (obtain ⟨t101, A3, H⟩ := H); (obtain rfl := Option.some.inj H); (go_enter Tryd.func26, Tryd.ntmps26); (go_wp2_with (first | ((with_reducible refine gate_callee (f := 43) rfl ?_); refine gL (some 7) Tryd.func43 #[.slice A0 l0.length c0, .string a1] ?_; (with_reducible refine (slices_Index_string_string.calls k _ _ l0 a1 t101 _ ?side1 ?side2 A3.out).mono ?_); (case side1 => exact cI HR0.out); (case side2 => exact HC0.out); rintro e w' ⟨rfl, ⟨nd, rfl⟩⟩; refine ⟨_, rfl, ?_⟩))); go_ret; (exact ⟨by first | rfl | (simp; done) | (simp [*]; done), by repeat (first | exact Drawn0.refl _ | apply Drawn0.step)⟩)
/-! ### impl_isName: function 52 -/
def impl_isName.l0 : Nat → ByteArray → Int → Int → Option (Bool)
 | 0, _, _, _ => none
 | k + 1, x0, x7, x8 => if x8 < x7 then (if 0 ≤ x8 then (if x8 < (x0.size : Int) then (if (bt x0 x8) ≥ 97 then (if (bt x0 x8) ≥ 48 then (if ((bt x0 x8) ≤ 122) then (impl_isName.l0 k x0 x7 (wrap64 (x8 + 1))) else (if x8 = 0 then (some false) else (if ((bt x0 x8) ≤ 57) then (impl_isName.l0 k x0 x7 (wrap64 (x8 + 1))) else (some false)))) else (if ((bt x0 x8) ≤ 122) then (impl_isName.l0 k x0 x7 (wrap64 (x8 + 1))) else (if x8 = 0 then (some false) else (some false)))) else (if (bt x0 x8) ≥ 48 then (if x8 = 0 then (some false) else (if ((bt x0 x8) ≤ 57) then (impl_isName.l0 k x0 x7 (wrap64 (x8 + 1))) else (some false))) else (if x8 = 0 then (some false) else (some false)))) else (none)) else (none)) else ((impl_within.f (x0.size : Int) 1 8).bind fun t101 => (some t101))
def impl_isName.f (k : Nat) (a0 : ByteArray) : Option (Bool) := impl_isName.l0 k a0 (a0.size : Int) 0
set_option maxHeartbeats 8000000 in
set_option maxRecDepth 100000 in
theorem impl_isName.calls (k : Nat) (a0 : ByteArray) (r : Bool) (w : World) (h : impl_isName.f k a0 = some r) :
  Calls Tryd.prog 52 #[.string a0] w fun e w' => e = .returned (.bool r) ∧ Drawn0 w w' := by
 (unfold impl_isName.f at h); (have H := h); clear h; (have H' := Aside0.mk H); clear H; (go_enter Tryd.func52, Tryd.ntmps52); (go_wp2); (go_loopg [8] k (fun kq v8 w' => ∃ (x8_1 : Int), v8 = .int .i64 x8_1 ∧ Aside0 (impl_isName.l0 kq a0 (a0.size : Int) x8_1 = some r) ∧ Aside0 (kq ≤ k) ∧ Drawn0 w w'))
 case atStart => exact ⟨(0), (by first | rfl | (simp; done) | (simp [*]; done)), H', ⟨Nat.le_refl _⟩, by repeat (first | exact Drawn0.refl _ | apply Drawn0.step)⟩
 case round =>
  (clear H'); (obtain ⟨x8_1, rfl, HA, HK1, ⟨m1, rfl⟩⟩ := hrel)
  cases gk with
  | zero => exact absurd HA.out (by simp [impl_isName.l0])
  | succ k1 =>
   (have H := HA.out); clear HA; (simp only [impl_isName.l0] at H); (by_cases c2 : x8_1 < (a0.size : Int))
   ·rw [if_pos c2] at H
    (have c2b0 := decide_eq_true c2); clear c2; (by_cases c3 : 0 ≤ x8_1)
    ·rw [if_pos c3] at H
     (have c3b0 := decide_eq_true c3); clear c3; (by_cases c4 : x8_1 < (a0.size : Int))
     ·rw [if_pos c4] at H
      (have c4b0 := decide_eq_true c4); clear c4; (by_cases c6 : (bt a0 x8_1) ≥ 97)
      ·rw [if_pos c6] at H
       (have c6b0 : decide (97 ≤ (bt a0 x8_1)) = true := decide_eq_true c6); clear c6; (by_cases c9 : (bt a0 x8_1) ≥ 48)
       ·rw [if_pos c9] at H
        (have c9b0 : decide (48 ≤ (bt a0 x8_1)) = true := decide_eq_true c9); clear c9; (by_cases c11 : ((bt a0 x8_1) ≤ 122))
        ·rw [if_pos c11] at H
         (have c11b0 : decide ((bt a0 x8_1) ≤ 122) = true := decide_eq_true c11); clear c11; (have H' := Aside0.mk H); clear H; (have p5 : 0 ≤ (x8_1 : Int) := odt); (have q5 : x8_1 < (a0.size : Int) := odt); (have hx5 := bt_at a0 x8_1); (replace p5 := eq_true p5); (replace q5 := eq_true q5); (have p7 : 0 ≤ (x8_1 : Int) := odt); (have q7 : x8_1 < (a0.size : Int) := odt); (have hx7 := bt_at a0 x8_1); (replace p7 := eq_true p7); (replace q7 := eq_true q7); (have p8 : 0 ≤ (x8_1 : Int) := odt); (have q8 : x8_1 < (a0.size : Int) := odt); (have hx8 := bt_at a0 x8_1); (replace p8 := eq_true p8); (replace q8 := eq_true q8); (have p10 : 0 ≤ (x8_1 : Int) := odt); (have q10 : x8_1 < (a0.size : Int) := odt); (have hx10 := bt_at a0 x8_1); (replace p10 := eq_true p10); (replace q10 := eq_true q10); (go_wp2); go_roundg k1
         case measure => have := HK1.out; omega
         case rel => exact ⟨(wrap64 (x8_1 + 1)), (by first | rfl | (simp; done) | (simp [*]; done)), H', ⟨by have := HK1.out; omega⟩, by repeat (first | exact Drawn0.refl _ | apply Drawn0.step)⟩
        ·rw [if_neg c11] at H
         (have c11b0 : decide ((bt a0 x8_1) ≤ 122) = false := decide_eq_false c11); clear c11; (by_cases c12 : x8_1 = 0)
         ·rw [if_pos c12] at H
          (have c12b0 : (x8_1 == 0) = true := beq_iff_eq.mpr c12); (have c12b1 : (x8_1 != 0) = false := bne_eq_false_iff_eq.mpr c12); clear c12; (obtain rfl := Option.some.inj H); (have p5 : 0 ≤ (x8_1 : Int) := odt); (have q5 : x8_1 < (a0.size : Int) := odt); (have hx5 := bt_at a0 x8_1); (replace p5 := eq_true p5); (replace q5 := eq_true q5); (have p7 : 0 ≤ (x8_1 : Int) := odt); (have q7 : x8_1 < (a0.size : Int) := odt); (have hx7 := bt_at a0 x8_1); (replace p7 := eq_true p7); (replace q7 := eq_true q7); (have p8 : 0 ≤ (x8_1 : Int) := odt); (have q8 : x8_1 < (a0.size : Int) := odt); (have hx8 := bt_at a0 x8_1); (replace p8 := eq_true p8); (replace q8 := eq_true q8); (have p10 : 0 ≤ (x8_1 : Int) := odt); (have q10 : x8_1 < (a0.size : Int) := odt); (have hx10 := bt_at a0 x8_1); (replace p10 := eq_true p10); (replace q10 := eq_true q10); (go_wp2); go_ret; (exact ⟨by first | rfl | (simp; done) | (simp [*]; done), by repeat (first | exact Drawn0.refl _ | apply Drawn0.step)⟩)
         ·rw [if_neg c12] at H
          (have c12b0 : (x8_1 == 0) = false := beq_eq_false_iff_ne.mpr c12); (have c12b1 : (x8_1 != 0) = true := bne_iff_ne.mpr c12); (by_cases c13 : ((bt a0 x8_1) ≤ 57))
          ·rw [if_pos c13] at H
           (have c13b0 : decide ((bt a0 x8_1) ≤ 57) = true := decide_eq_true c13); clear c13; (have H' := Aside0.mk H); clear H; (have p5 : 0 ≤ (x8_1 : Int) := odt); (have q5 : x8_1 < (a0.size : Int) := odt); (have hx5 := bt_at a0 x8_1); (replace p5 := eq_true p5); (replace q5 := eq_true q5); (have p7 : 0 ≤ (x8_1 : Int) := odt); (have q7 : x8_1 < (a0.size : Int) := odt); (have hx7 := bt_at a0 x8_1); (replace p7 := eq_true p7); (replace q7 := eq_true q7); (have p8 : 0 ≤ (x8_1 : Int) := odt); (have q8 : x8_1 < (a0.size : Int) := odt); (have hx8 := bt_at a0 x8_1); (replace p8 := eq_true p8); (replace q8 := eq_true q8); (have p10 : 0 ≤ (x8_1 : Int) := odt); (have q10 : x8_1 < (a0.size : Int) := odt); (have hx10 := bt_at a0 x8_1); (replace p10 := eq_true p10); (replace q10 := eq_true q10); (go_wp2); go_roundg k1
           case measure => have := HK1.out; omega
           case rel => exact ⟨(wrap64 (x8_1 + 1)), (by first | rfl | (simp; done) | (simp [*]; done)), H', ⟨by have := HK1.out; omega⟩, by repeat (first | exact Drawn0.refl _ | apply Drawn0.step)⟩
          ·rw [if_neg c13] at H
           (have c13b0 : decide ((bt a0 x8_1) ≤ 57) = false := decide_eq_false c13); clear c13; (obtain rfl := Option.some.inj H); (have p5 : 0 ≤ (x8_1 : Int) := odt); (have q5 : x8_1 < (a0.size : Int) := odt); (have hx5 := bt_at a0 x8_1); (replace p5 := eq_true p5); (replace q5 := eq_true q5); (have p7 : 0 ≤ (x8_1 : Int) := odt); (have q7 : x8_1 < (a0.size : Int) := odt); (have hx7 := bt_at a0 x8_1); (replace p7 := eq_true p7); (replace q7 := eq_true q7); (have p8 : 0 ≤ (x8_1 : Int) := odt); (have q8 : x8_1 < (a0.size : Int) := odt); (have hx8 := bt_at a0 x8_1); (replace p8 := eq_true p8); (replace q8 := eq_true q8); (have p10 : 0 ≤ (x8_1 : Int) := odt); (have q10 : x8_1 < (a0.size : Int) := odt); (have hx10 := bt_at a0 x8_1); (replace p10 := eq_true p10); (replace q10 := eq_true q10); (go_wp2); go_ret; (exact ⟨by first | rfl | (simp; done) | (simp [*]; done), by repeat (first | exact Drawn0.refl _ | apply Drawn0.step)⟩)
       ·rw [if_neg c9] at H
        (have c9b0 : decide (48 ≤ (bt a0 x8_1)) = false := decide_eq_false c9); clear c9; (by_cases c14 : ((bt a0 x8_1) ≤ 122))
        ·rw [if_pos c14] at H
         (have c14b0 : decide ((bt a0 x8_1) ≤ 122) = true := decide_eq_true c14); clear c14; (have H' := Aside0.mk H); clear H; (have p5 : 0 ≤ (x8_1 : Int) := odt); (have q5 : x8_1 < (a0.size : Int) := odt); (have hx5 := bt_at a0 x8_1); (replace p5 := eq_true p5); (replace q5 := eq_true q5); (have p7 : 0 ≤ (x8_1 : Int) := odt); (have q7 : x8_1 < (a0.size : Int) := odt); (have hx7 := bt_at a0 x8_1); (replace p7 := eq_true p7); (replace q7 := eq_true q7); (have p8 : 0 ≤ (x8_1 : Int) := odt); (have q8 : x8_1 < (a0.size : Int) := odt); (have hx8 := bt_at a0 x8_1); (replace p8 := eq_true p8); (replace q8 := eq_true q8); (go_wp2); go_roundg k1
         case measure => have := HK1.out; omega
         case rel => exact ⟨(wrap64 (x8_1 + 1)), (by first | rfl | (simp; done) | (simp [*]; done)), H', ⟨by have := HK1.out; omega⟩, by repeat (first | exact Drawn0.refl _ | apply Drawn0.step)⟩
        ·rw [if_neg c14] at H
         (have c14b0 : decide ((bt a0 x8_1) ≤ 122) = false := decide_eq_false c14); clear c14; (by_cases c15 : x8_1 = 0)
         ·rw [if_pos c15] at H
          (have c15b0 : (x8_1 == 0) = true := beq_iff_eq.mpr c15); (have c15b1 : (x8_1 != 0) = false := bne_eq_false_iff_eq.mpr c15); clear c15; (obtain rfl := Option.some.inj H); (have p5 : 0 ≤ (x8_1 : Int) := odt); (have q5 : x8_1 < (a0.size : Int) := odt); (have hx5 := bt_at a0 x8_1); (replace p5 := eq_true p5); (replace q5 := eq_true q5); (have p7 : 0 ≤ (x8_1 : Int) := odt); (have q7 : x8_1 < (a0.size : Int) := odt); (have hx7 := bt_at a0 x8_1); (replace p7 := eq_true p7); (replace q7 := eq_true q7); (have p8 : 0 ≤ (x8_1 : Int) := odt); (have q8 : x8_1 < (a0.size : Int) := odt); (have hx8 := bt_at a0 x8_1); (replace p8 := eq_true p8); (replace q8 := eq_true q8); (go_wp2); go_ret; (exact ⟨by first | rfl | (simp; done) | (simp [*]; done), by repeat (first | exact Drawn0.refl _ | apply Drawn0.step)⟩)
         ·rw [if_neg c15] at H
          (have c15b0 : (x8_1 == 0) = false := beq_eq_false_iff_ne.mpr c15); (have c15b1 : (x8_1 != 0) = true := bne_iff_ne.mpr c15); (obtain rfl := Option.some.inj H); (have p5 : 0 ≤ (x8_1 : Int) := odt); (have q5 : x8_1 < (a0.size : Int) := odt); (have hx5 := bt_at a0 x8_1); (replace p5 := eq_true p5); (replace q5 := eq_true q5); (have p7 : 0 ≤ (x8_1 : Int) := odt); (have q7 : x8_1 < (a0.size : Int) := odt); (have hx7 := bt_at a0 x8_1); (replace p7 := eq_true p7); (replace q7 := eq_true q7); (have p8 : 0 ≤ (x8_1 : Int) := odt); (have q8 : x8_1 < (a0.size : Int) := odt); (have hx8 := bt_at a0 x8_1); (replace p8 := eq_true p8); (replace q8 := eq_true q8); (go_wp2); go_ret; (exact ⟨by first | rfl | (simp; done) | (simp [*]; done), by repeat (first | exact Drawn0.refl _ | apply Drawn0.step)⟩)
      ·rw [if_neg c6] at H
       (have c6b0 : decide (97 ≤ (bt a0 x8_1)) = false := decide_eq_false c6); clear c6; (by_cases c17 : (bt a0 x8_1) ≥ 48)
       ·rw [if_pos c17] at H
        (have c17b0 : decide (48 ≤ (bt a0 x8_1)) = true := decide_eq_true c17); clear c17; (by_cases c19 : x8_1 = 0)
        ·rw [if_pos c19] at H
         (have c19b0 : (x8_1 == 0) = true := beq_iff_eq.mpr c19); (have c19b1 : (x8_1 != 0) = false := bne_eq_false_iff_eq.mpr c19); clear c19; (obtain rfl := Option.some.inj H); (have p5 : 0 ≤ (x8_1 : Int) := odt); (have q5 : x8_1 < (a0.size : Int) := odt); (have hx5 := bt_at a0 x8_1); (replace p5 := eq_true p5); (replace q5 := eq_true q5); (have p16 : 0 ≤ (x8_1 : Int) := odt); (have q16 : x8_1 < (a0.size : Int) := odt); (have hx16 := bt_at a0 x8_1); (replace p16 := eq_true p16); (replace q16 := eq_true q16); (have p18 : 0 ≤ (x8_1 : Int) := odt); (have q18 : x8_1 < (a0.size : Int) := odt); (have hx18 := bt_at a0 x8_1); (replace p18 := eq_true p18); (replace q18 := eq_true q18); (go_wp2); go_ret; (exact ⟨by first | rfl | (simp; done) | (simp [*]; done), by repeat (first | exact Drawn0.refl _ | apply Drawn0.step)⟩)
        ·rw [if_neg c19] at H
         (have c19b0 : (x8_1 == 0) = false := beq_eq_false_iff_ne.mpr c19); (have c19b1 : (x8_1 != 0) = true := bne_iff_ne.mpr c19); (by_cases c20 : ((bt a0 x8_1) ≤ 57))
         ·rw [if_pos c20] at H
          (have c20b0 : decide ((bt a0 x8_1) ≤ 57) = true := decide_eq_true c20); clear c20; (have H' := Aside0.mk H); clear H; (have p5 : 0 ≤ (x8_1 : Int) := odt); (have q5 : x8_1 < (a0.size : Int) := odt); (have hx5 := bt_at a0 x8_1); (replace p5 := eq_true p5); (replace q5 := eq_true q5); (have p16 : 0 ≤ (x8_1 : Int) := odt); (have q16 : x8_1 < (a0.size : Int) := odt); (have hx16 := bt_at a0 x8_1); (replace p16 := eq_true p16); (replace q16 := eq_true q16); (have p18 : 0 ≤ (x8_1 : Int) := odt); (have q18 : x8_1 < (a0.size : Int) := odt); (have hx18 := bt_at a0 x8_1); (replace p18 := eq_true p18); (replace q18 := eq_true q18); (go_wp2); go_roundg k1
          case measure => have := HK1.out; omega
          case rel => exact ⟨(wrap64 (x8_1 + 1)), (by first | rfl | (simp; done) | (simp [*]; done)), H', ⟨by have := HK1.out; omega⟩, by repeat (first | exact Drawn0.refl _ | apply Drawn0.step)⟩
         ·rw [if_neg c20] at H
          (have c20b0 : decide ((bt a0 x8_1) ≤ 57) = false := decide_eq_false c20); clear c20; (obtain rfl := Option.some.inj H); (have p5 : 0 ≤ (x8_1 : Int) := odt); (have q5 : x8_1 < (a0.size : Int) := odt); (have hx5 := bt_at a0 x8_1); (replace p5 := eq_true p5); (replace q5 := eq_true q5); (have p16 : 0 ≤ (x8_1 : Int) := odt); (have q16 : x8_1 < (a0.size : Int) := odt); (have hx16 := bt_at a0 x8_1); (replace p16 := eq_true p16); (replace q16 := eq_true q16); (have p18 : 0 ≤ (x8_1 : Int) := odt); (have q18 : x8_1 < (a0.size : Int) := odt); (have hx18 := bt_at a0 x8_1); (replace p18 := eq_true p18); (replace q18 := eq_true q18); (go_wp2); go_ret; (exact ⟨by first | rfl | (simp; done) | (simp [*]; done), by repeat (first | exact Drawn0.refl _ | apply Drawn0.step)⟩)
       ·rw [if_neg c17] at H
        (have c17b0 : decide (48 ≤ (bt a0 x8_1)) = false := decide_eq_false c17); clear c17; (by_cases c21 : x8_1 = 0)
        ·rw [if_pos c21] at H
         (have c21b0 : (x8_1 == 0) = true := beq_iff_eq.mpr c21); (have c21b1 : (x8_1 != 0) = false := bne_eq_false_iff_eq.mpr c21); clear c21; (obtain rfl := Option.some.inj H); (have p5 : 0 ≤ (x8_1 : Int) := odt); (have q5 : x8_1 < (a0.size : Int) := odt); (have hx5 := bt_at a0 x8_1); (replace p5 := eq_true p5); (replace q5 := eq_true q5); (have p16 : 0 ≤ (x8_1 : Int) := odt); (have q16 : x8_1 < (a0.size : Int) := odt); (have hx16 := bt_at a0 x8_1); (replace p16 := eq_true p16); (replace q16 := eq_true q16); (go_wp2); go_ret; (exact ⟨by first | rfl | (simp; done) | (simp [*]; done), by repeat (first | exact Drawn0.refl _ | apply Drawn0.step)⟩)
        ·rw [if_neg c21] at H
         (have c21b0 : (x8_1 == 0) = false := beq_eq_false_iff_ne.mpr c21); (have c21b1 : (x8_1 != 0) = true := bne_iff_ne.mpr c21); (obtain rfl := Option.some.inj H); (have p5 : 0 ≤ (x8_1 : Int) := odt); (have q5 : x8_1 < (a0.size : Int) := odt); (have hx5 := bt_at a0 x8_1); (replace p5 := eq_true p5); (replace q5 := eq_true q5); (have p16 : 0 ≤ (x8_1 : Int) := odt); (have q16 : x8_1 < (a0.size : Int) := odt); (have hx16 := bt_at a0 x8_1); (replace p16 := eq_true p16); (replace q16 := eq_true q16); (go_wp2); go_ret; (exact ⟨by first | rfl | (simp; done) | (simp [*]; done), by repeat (first | exact Drawn0.refl _ | apply Drawn0.step)⟩)
     ·rw [if_neg c4] at H
      exact absurd H (by simp)
    ·rw [if_neg c3] at H
     exact absurd H (by simp)
   ·rw [if_neg c2] at H
    (have c2b0 := decide_eq_false c2); clear c2; (replace H := obS H); (obtain ⟨t101, A22, H⟩ := H); (obtain rfl := Option.some.inj H); (go_wp2_with (first | ((with_reducible refine gate_callee (f := 40) rfl ?_); refine gL (some 44) Tryd.func40 #[.int .i64 (a0.size : Int), .int .i64 1, .int .i64 8] ?_; (with_reducible refine (impl_within.calls (a0.size : Int) 1 8 t101 _ A22.out).mono ?_); rintro e w' ⟨rfl, ⟨nd, rfl⟩⟩; refine ⟨_, rfl, ?_⟩))); go_ret; (exact ⟨by first | rfl | (simp; done) | (simp [*]; done), by repeat (first | exact Drawn0.refl _ | apply Drawn0.step)⟩)

end Go.Proofs.YtcjloeeomhiblaaDoor.X
set_option linter.unusedVariables false
namespace Go.Proofs.YtcjloeeomhiblaaDoor.X
open Go.RowKit Go.Proofs.YtcjloeeomhiblaaDoorW.PrintWords Go.Proofs.YtcjloeeomhiblaaDoorW.PrintLast Go.Proofs.YtcjloeeomhiblaaDoorW.PrintMore Go.Proofs.YtcjloeeomhiblaaDoor.E
set_option maxHeartbeats 1000000 in
set_option maxRecDepth 100000 in
theorem idxFunc68 (A_ : Option Addr) (c_ : Nat) (l0 : List (S31)) (g : Nat) (lb : Array Value) (p : S31 → Bool) (w : World)
    (hr0 : Kd.C k31 w A_ l0.length l0) (eg : ∀ args w, (callFunc g args).run Tryd.prog w = .ok (.enter g args) w)
    (hp : ∀ (W : World) (x : S31) (A4 : Option Addr) (c4 : Nat), x ∈ l0 → Below w.heap.size w W → x.f4.length ≤ c4 → Kd.C Kd.string W A4 x.f4.length x.f4 → Calls Tryd.prog g (#[.agg #[.string x.f0, .int .i64 x.f1, .int .i64 x.f2, .int .i64 x.f3, .slice A4 x.f4.length c4, .bool x.f5, .string x.f6]] ++ lb) W fun e w' => e = .returned (.bool (p x)) ∧ Below W.heap.size W w') :
    Calls Tryd.prog 68 #[.slice A_ l0.length c_, .func (.func g) #[] lb] w fun e w' => e = .returned (.int .i64 (idxG p 0 l0)) ∧ Below w.heap.size w w' := by
  have hu31 := Tryd.underlying31
  have HL := Aside0.mk hr0.2.1
  have HR0 := Aside0.mk hr0
  have HP := Aside0.mk hp
  clear hr0 hp
  go_enter Tryd.func68, Tryd.ntmps68
  go_wp2
  go_loopg [5, 8] l0.length (fun gg _ s8 wr => ∃ x8 : Int, s8 = .int .i64 x8 ∧ Aside0 (0 ≤ x8) ∧ Aside0 (x8 ≤ (l0.length : Int)) ∧ Aside0 ((l0.length : Int) - x8 ≤ (gg : Int)) ∧ Aside0 (Below w.heap.size w wr) ∧ Aside0 (∀ (m : Nat) y, (m : Int) < x8 → l0[m]? = some y → p y = false))
  case atStart => exact ⟨0, rfl, ⟨by omega⟩, ⟨by omega⟩, ⟨by omega⟩, ⟨Below.refl _ _⟩, ⟨fun m y hm => by omega⟩⟩
  case round =>
    obtain ⟨x8, rfl, H0, H1, HG, HB, HN⟩ := hrel
    by_cases c : x8 < (l0.length : Int)
    · have p1 := H0.out
      have q1 := c
      have cb : decide (x8 < (l0.length : Int)) = true := decide_eq_true c
      obtain ⟨ad, A4, c4, e, hx0, hx1, hx2, hx3, hx4, hx5, hx6, hl4, hi4⟩ := at_T31 (Kd.C_below HR0.out HB.out) x8 p1 q1
      cases e
      replace p1 := eq_true p1
      replace q1 := eq_true q1
      have hel : l0[x8.toNat]? = some (rd_T31 l0 x8) := by
        have := H0.out
        unfold rd_T31
        rw [List.getD_eq_getElem?_getD, List.getElem?_eq_getElem (show x8.toNat < l0.length by omega), Option.getD_some]
      have hcall := HP.out wr (rd_T31 l0 x8) A4 c4 (List.mem_of_getElem? hel) HB.out hl4 hi4
      clear hl4 hi4
      have HE := Aside0.mk hel
      clear hel
      have hwr : wrap64 (x8 + 1) = x8 + 1 := wrap_id (by have := H0.out; omega) (by have := HL.out; omega)
      cases hq : p (rd_T31 l0 x8) with
      | true =>
        rw [hq] at hcall
        have HQ := Aside0.mk hq
        clear hq
        go_wp2_with (go_at_fn g; refine hcall.mono ?_; rintro e w' ⟨rfl, hb⟩)
        go_ret
        refine ⟨?_, ?_⟩
        · rw [idxG_here HE.out HQ.out (fun m y hm => HN.out m y (by have := H0.out; omega))]
          have := H0.out
          rw [Int.toNat_of_nonneg (by omega)]
          rfl
        · exact below_step HB.out hb
      | false =>
        rw [hq] at hcall
        have HQ := Aside0.mk hq
        clear hq
        go_wp2_with (go_at_fn g; refine hcall.mono ?_; rintro e w' ⟨rfl, hb⟩)
        go_roundg (l0.length - (x8.toNat + 1))
        case measure => have := HG.out; have := H0.out; omega
        case rel =>
          refine ⟨x8 + 1, by simp [*], ⟨by have := H0.out; omega⟩, ⟨by omega⟩, ⟨by have := H0.out; omega⟩, ⟨below_step HB.out hb⟩, ⟨fun m y hm hy => ?_⟩⟩
          by_cases e : (m : Int) = x8
          · have : x8.toNat = m := by omega
            rw [← this, HE.out] at hy
            cases hy
            exact HQ.out
          · exact HN.out m y (by omega) hy
    · have cb : decide (x8 < (l0.length : Int)) = false := decide_eq_false c
      have e : x8 = (l0.length : Int) := by have := H1.out; omega
      have HE := Aside0.mk e
      clear e
      go_wp2
      go_ret
      refine ⟨?_, HB.out⟩
      rw [idxG_none (fun m y hm => HN.out m y (by rw [HE.out]; omega))]
      rfl
end Go.Proofs.YtcjloeeomhiblaaDoor.X
namespace Go.Proofs.YtcjloeeomhiblaaDoor.X
open Go.RowKit Go.Proofs.YtcjloeeomhiblaaDoorW.PrintWords Go.Proofs.YtcjloeeomhiblaaDoorW.PrintLast Go.Proofs.YtcjloeeomhiblaaDoorW.PrintMore Go.Proofs.YtcjloeeomhiblaaDoor.E
attribute [local go_sem] max2_int min2_int max_two min_two max_three min_three max_four min_four   -- for this text's walks alone
set_option linter.unusedVariables false
set_option linter.unusedSimpArgs false
attribute [-simp] ByteArray.size_append ByteArray.size_extract
attribute [-go_sem] ByteArray.size_append'

/-! ### impl_fieldOf: function 53 -/
/-- The literal of fieldOf: is it the field of this name? -/
theorem fieldOf1 (x : S31) (A4 : Option Addr) (c4 : Nat) (a : ByteArray) (B : Nat) (w : World) (hc : w.cell? ⟨B, 0, none⟩ = some (.string a)) :
  Calls Tryd.prog 69 #[.agg #[.string x.f0, .int .i64 x.f1, .int .i64 x.f2, .int .i64 x.f3, .slice A4 x.f4.length c4, .bool x.f5, .string x.f6], .pointer (some ⟨B, 0, none⟩)] w fun e w' => e = .returned (.bool (x.f0.toList == a.toList)) ∧ Below w.heap.size w w' := by
 (have hu59 := Tryd.underlying31); (have hc' : ∀ o : Obj, (w.alloc o).cell? ⟨B, 0, none⟩ = some (.string a) := fun o => ((((Below.refl _ _).alloc (Nat.le_refl _) o).cell (p := ⟨B, 0, none⟩) (bltc w _ hc))).trans hc); (go_enter Tryd.func69, Tryd.ntmps69); (go_wp2); go_ret; (exact ⟨rfl, (Below.refl _ _).alloc (Nat.le_refl _) _⟩)
def impl_fieldOf.f (l0 : List S31) (a1 : ByteArray) : Option Int := some (idxG (fun x : S31 => x.f0.toList == a1.toList) 0 l0)
set_option maxHeartbeats 400000 in
set_option maxRecDepth 100000 in
theorem impl_fieldOf.calls (A0 : Option Addr) (c0 : Nat) (l0 : List (S31)) (a1 : ByteArray) (r : Int) (w : World) (hr0 : Kd.C k31 w A0 l0.length l0) (hc0 : l0.length ≤ c0) (h : impl_fieldOf.f l0 a1 = some r) :
  Calls Tryd.prog 53 #[.slice A0 l0.length c0, .string a1] w fun e w' => e = .returned (.int .i64 r) ∧ Below w.heap.size w w' := by
 (have hr := Option.some.inj h); (have HH := Aside0.mk hr); clear h hr
 have C := fun (W : World) (hb : Below w.heap.size w W) (hlt : w.heap.size < W.heap.size) (hcell : W.cell? ⟨w.heap.size, 0, none⟩ = some (.string a1)) =>
  idxFunc68 A0 c0 l0 69 #[.pointer (some ⟨w.heap.size, 0, none⟩)] (fun x : S31 => x.f0.toList == a1.toList) W (Kd.C_below hr0 hb) (enters_of Tryd.func69 (by kernel_rfl) rfl) (fun W' x A4 c4 _ hb' _ _ => fieldOf1 x A4 c4 a1 w.heap.size W' ((hb'.cell (p := ⟨w.heap.size, 0, none⟩) hlt).trans hcell))
 (have CC := Aside0.mk C); clear C hr0; (go_enter Tryd.func53, Tryd.ntmps53); (go_wp2_with (go_at_call 68; refine (CC.out _ ?s1 ?s2 ?s3).mono ?_; (case s1 => exact (Below.refl _ _).alloc (Nat.le_refl _) _); (case s2 => simp); (case s3 => simp); rintro e w' ⟨rfl, hb⟩)); go_ret; (refine ⟨?_, below_step ((Below.refl _ _).alloc (Nat.le_refl _) _) hb⟩); (rw [← HH.out]); rfl

end Go.Proofs.YtcjloeeomhiblaaDoor.X
namespace Go.Proofs.YtcjloeeomhiblaaDoor.X
open Go.RowKit Go.Proofs.YtcjloeeomhiblaaDoorW.PrintWords Go.Proofs.YtcjloeeomhiblaaDoorW.PrintLast Go.Proofs.YtcjloeeomhiblaaDoorW.PrintMore
attribute [local go_sem] max2_int min2_int max_two min_two max_three min_three max_four min_four   -- for this text's walks alone
set_option linter.unusedVariables false
set_option linter.unusedSimpArgs false
attribute [-simp] ByteArray.size_append ByteArray.size_extract
attribute [-go_sem] ByteArray.size_append'

/-! ### impl_isField: function 42 -/
mutual
def impl_isField.j0 : Nat → List (S31) → Bool → ByteArray → Int → Int → Int → List ByteArray → Bool → ByteArray → Option (Bool)
 | 0, _, _, _, _, _, _, _, _, _ => none
 | k + 1, x0, x18, x102000, x102001, x102002, x102003, x102004, x102005, x102006 => if x18 = true then (some false) else ((impl_fieldOf.f x0 x102006).bind fun t104 => (if x102006.toList = ([] : List UInt8) then (impl_isField.j1 k false x102000 x102001 x102002 x102003 x102004 x102005 x102006) else (if t104 < 0 then (impl_isField.j1 k true x102000 x102001 x102002 x102003 x102004 x102005 x102006) else (if 0 ≤ t104 then (if t104 < (x0.length : Int) then (impl_isField.j1 k (((rd_T31 x0 t104).f1) != 4) x102000 x102001 x102002 x102003 x102004 x102005 x102006) else (none)) else (none)))))
def impl_isField.j1 : Nat → Bool → ByteArray → Int → Int → Int → List ByteArray → Bool → ByteArray → Option (Bool)
 | 0, _, _, _, _, _, _, _, _ => none
 | k + 1, x37, x102000, x102001, x102002, x102003, x102004, x102005, x102006 => if x37 = true then (some false) else (if x102001 = 3 then (impl_isField.j2 k false x102000 x102001 x102002 x102003 x102004 x102005 x102006) else (impl_isField.j2 k (decide ((x102004.length : Int) > 0)) x102000 x102001 x102002 x102003 x102004 x102005 x102006))
def impl_isField.j2 : Nat → Bool → ByteArray → Int → Int → Int → List ByteArray → Bool → ByteArray → Option (Bool)
 | 0, _, _, _, _, _, _, _, _ => none
 | k + 1, x46, x102000, x102001, x102002, x102003, x102004, x102005, x102006 => if x46 = true then (some false) else (if x102001 = 1 then (if x102002 ≥ (-999999) then (if x102002 ≤ x102003 then (some (decide (x102003 ≤ 999999))) else (some false)) else (some false)) else (if x102001 = 2 then (if x102002 ≥ 0 then (if x102002 ≤ x102003 then (some (decide (x102003 ≤ 40))) else (some false)) else (some false)) else (if x102001 = 3 then (impl_isField.l0 k x102004 (x102004.length : Int) 0 x102000 x102001 x102002 x102003 x102004 x102005 x102006) else (if x102001 = 4 then (if x102002 = 0 then (some (x102003 == 0)) else (some false)) else (some false)))))
def impl_isField.l0 : Nat → List ByteArray → Int → Int → ByteArray → Int → Int → Int → List ByteArray → Bool → ByteArray → Option (Bool)
 | 0, _, _, _, _, _, _, _, _, _, _ => none
 | k + 1, x86, x87, x88, x102000, x102001, x102002, x102003, x102004, x102005, x102006 => if x88 < x87 then (if 0 ≤ x88 then (if x88 < (x86.length : Int) then ((impl_isName.f k (rdOf ByteArray.empty x86 x88)).bind fun t108 => (if t108 = true then (if x88 ≤ (x102004.length : Int) then ((slices_Contains_string_string.f k (x102004.take (x88 : Int).toNat) (rdOf ByteArray.empty x86 x88)).bind fun t110 => (if t110 = true then (some false) else (impl_isField.l0 k x86 x87 (wrap64 (x88 + 1)) x102000 x102001 x102002 x102003 x102004 x102005 x102006))) else (none)) else (some false))) else (none)) else (none)) else ((impl_within.f (x102004.length : Int) 1 6).bind fun t106 => (if t106 = true then (if x102002 = 0 then (some (x102003 == 0)) else (some false)) else (some false)))
end
def impl_isField.f (k : Nat) (l0 : List (S31)) (a1_0 : ByteArray) (a1_1 : Int) (a1_2 : Int) (a1_3 : Int) (l1_4 : List ByteArray) (a1_5 : Bool) (a1_6 : ByteArray) : Option (Bool) := (impl_isName.f k a1_0).bind fun t102 => (if t102 = true then ((impl_fieldOf.f l0 a1_0).bind fun t103 => (impl_isField.j0 k l0 (decide (t103 ≥ 0)) a1_0 a1_1 a1_2 a1_3 l1_4 a1_5 a1_6)) else (impl_isField.j0 k l0 true a1_0 a1_1 a1_2 a1_3 l1_4 a1_5 a1_6))
set_option maxHeartbeats 8000000 in
set_option maxRecDepth 100000 in
theorem impl_isField.calls (k : Nat) (A0 : Option Addr) (c0 : Nat) (l0 : List (S31)) (a1_0 : ByteArray) (a1_1 : Int) (a1_2 : Int) (a1_3 : Int) (A1_4 : Option Addr) (c1_4 : Nat) (l1_4 : List ByteArray) (a1_5 : Bool) (a1_6 : ByteArray) (r : Bool) (w : World) (hr0 : Kd.C k31 w A0 l0.length l0) (hc0 : l0.length ≤ c0) (hr1_4 : Kd.C Kd.string w A1_4 l1_4.length l1_4) (hc1_4 : l1_4.length ≤ c1_4) (h : impl_isField.f k l0 a1_0 a1_1 a1_2 a1_3 l1_4 a1_5 a1_6 = some r) :
  Calls Tryd.prog 42 #[.slice A0 l0.length c0, .agg #[.string a1_0, .int .i64 a1_1, .int .i64 a1_2, .int .i64 a1_3, .slice A1_4 l1_4.length c1_4, .bool a1_5, .string a1_6]] w fun e w' => e = .returned (.bool r) ∧ Below w.heap.size w w' := by
 (have hu31 := Tryd.underlying31); (have HR0 := Aside0.mk hr0); (have HC0 := Aside0.mk hc0); clear hr0 hc0; (have HR1_4 := Aside0.mk hr1_4); (have HC1_4 := Aside0.mk hc1_4); clear hr1_4 hc1_4; (have HB := Aside0.mk (Below.refl w.heap.size w)); (unfold impl_isField.f at h); (have H := h); clear h; (have HC3 := Aside0.mk H); clear H; (go_enter Tryd.func42, Tryd.ntmps42); (go_upto_region 1 with (first | ((with_reducible refine gate_dst (N := 3) rfl ?_); refine box_event ?hg (N := 3) ?hd (cs := #[.string a1_0, .int .i64 a1_1, .int .i64 a1_2, .int .i64 a1_3, .slice A1_4 l1_4.length c1_4, .bool a1_5, .string a1_6]) (t := 31) ?hr ?_; (case hd => rfl); (case hg => rfl); (case hr => first | (go_simp; done) | (go_simp; rfl)); intro gb101 hg w4 hbox hb; have hB_ := zI hb HB; have n0_ := Aside0.mk (below_step hB_ hb); have n1_ := Aside0.mk (hbox); have n2_ := Aside0.mk (bx0 hg hB_); have n3_ := n2_; clear HB; have HB := n0_; have BK101 := n1_; have GW101 := n2_; have GE101 := n3_; clear n0_ n1_ n2_ n3_ hB_ hb hbox hg))); ((try simp only [Act.put, aS1, aS2, aS3])); (go_cut [18] (fun v18 wc => ∃ (kq : Nat) (x18_2 : Bool), v18 = .bool x18_2 ∧ Aside0 (impl_isField.j0 kq l0 x18_2 a1_0 a1_1 a1_2 a1_3 l1_4 a1_5 a1_6 = some r) ∧ Aside0 (kq ≤ k) ∧ Aside0 (wc.heap[gb101]? = some (.cells #[.string a1_0, .int .i64 a1_1, .int .i64 a1_2, .int .i64 a1_3, (.slice A1_4 l1_4.length c1_4), .bool a1_5, .string a1_6] 31 (0, 0))) ∧ Aside0 (Below w.heap.size w wc)))
 case first =>
  (have H := HC3.out); clear HC3; (replace H := obS H); (obtain ⟨t102, A5, H⟩ := H); (by_cases c6 : t102 = true)
  ·subst c6
   (rw [if_pos rfl] at H); (replace H := obS H); (obtain ⟨t103, A7, H⟩ := H); (have H' := Aside0.mk H); clear H; (have hcz8_0 := cz BK101.out 0); (have hcz8_1 := cz BK101.out 1); (have hcz8_2 := cz BK101.out 2); (have hcz8_3 := cz BK101.out 3); (have hcz8_4 := cz BK101.out 4); (have hcz8_5 := cz BK101.out 5); (have hcz8_6 := cz BK101.out 6); (have hfz8_0 := blk_frozen BK101.out 0); (have hfz8_1 := blk_frozen BK101.out 1); (have hfz8_2 := blk_frozen BK101.out 2); (have hfz8_3 := blk_frozen BK101.out 3); (have hfz8_4 := blk_frozen BK101.out 4); (have hfz8_5 := blk_frozen BK101.out 5); (have hfz8_6 := blk_frozen BK101.out 6); (go_wp2_with (first | ((with_reducible refine gate_callee (f := 52) rfl ?_); refine gL (some 10) Tryd.func52 #[.string a1_0] ?_; (with_reducible refine (impl_isName.calls k a1_0 true _ A5.out).mono ?_); rintro e w' ⟨rfl, ⟨nd, rfl⟩⟩; refine ⟨_, rfl, ?_⟩) | (go_at_call 53; (with_reducible refine (impl_fieldOf.calls _ _ l0 a1_0 t103 _ ?side1 ?side2 A7.out).mono ?_); (case side1 => exact Kd.C_below HR0.out (eI HB)); (case side2 => exact HC0.out); rintro e w9 ⟨rfl, hb⟩; have n0_ := Aside0.mk (kbI hb BK101); have n1_ := Aside0.mk (sI hb HB); clear BK101 HB; have BK101 := n0_; have HB := n1_; clear n0_ n1_; (try clear hb); (try clear hb2); (try clear hk); (try clear hi)))); (go_meet)
   case rel => exact ⟨_, (decide (t103 ≥ 0)), (by first | rfl | (simp; done) | (simp [*]; done)), H', ⟨by first | omega | exact Nat.le_refl _⟩, ⟨kI BK101⟩, ⟨eI HB⟩⟩
  ·replace c6 := Bool.eq_false_iff.mpr c6
   subst c6; (rw [if_neg (show ¬ (false = true) by decide)] at H); (have H' := Aside0.mk H); clear H; (have hcz10_0 := cz BK101.out 0); (have hcz10_1 := cz BK101.out 1); (have hcz10_2 := cz BK101.out 2); (have hcz10_3 := cz BK101.out 3); (have hcz10_4 := cz BK101.out 4); (have hcz10_5 := cz BK101.out 5); (have hcz10_6 := cz BK101.out 6); (have hfz10_0 := blk_frozen BK101.out 0); (have hfz10_1 := blk_frozen BK101.out 1); (have hfz10_2 := blk_frozen BK101.out 2); (have hfz10_3 := blk_frozen BK101.out 3); (have hfz10_4 := blk_frozen BK101.out 4); (have hfz10_5 := blk_frozen BK101.out 5); (have hfz10_6 := blk_frozen BK101.out 6); (go_wp2_with (first | ((with_reducible refine gate_callee (f := 52) rfl ?_); refine gL (some 10) Tryd.func52 #[.string a1_0] ?_; (with_reducible refine (impl_isName.calls k a1_0 false _ A5.out).mono ?_); rintro e w' ⟨rfl, ⟨nd, rfl⟩⟩; refine ⟨_, rfl, ?_⟩))); (go_meet)
   case rel => exact ⟨_, (true), (by first | rfl | (simp; done) | (simp [*]; done)), H', ⟨by first | omega | exact Nat.le_refl _⟩, ⟨kI BK101⟩, ⟨eI HB⟩⟩
 case rest =>
  clear HC3; (try clear c1); (try clear p2); (try clear c4); (try clear c5); (try clear c6); (try clear hcz10_0); (try clear hcz10_1); (try clear hcz10_2); (try clear hcz10_3); (try clear hcz10_4); (try clear hcz10_5); (try clear hcz10_6); (try clear hcz8_0); (try clear hcz8_1); (try clear hcz8_2); (try clear hcz8_3); (try clear hcz8_4); (try clear hcz8_5); (try clear hcz8_6); (try clear hfz10_0); (try clear hfz10_1); (try clear hfz10_2); (try clear hfz10_3); (try clear hfz10_4); (try clear hfz10_5); (try clear hfz10_6); (try clear hfz8_0); (try clear hfz8_1); (try clear hfz8_2); (try clear hfz8_3); (try clear hfz8_4); (try clear hfz8_5); (try clear hfz8_6); (obtain ⟨kq, x18_2, rfl, HA, HJ2, BK101, HB⟩ := hcut)
  cases kq with
  | zero => exact absurd HA.out (by simp [impl_isField.j0])
  | succ kj2 =>
   (have H := HA.out); clear HA; (simp only [impl_isField.j0] at H); (by_cases c11 : x18_2 = true); (· subst c11; (rw [if_pos rfl] at H); (obtain rfl := Option.some.inj H); (go_wp2); go_ret; (exact ⟨rfl, eI HB⟩))
   ·replace c11 := Bool.eq_false_iff.mpr c11
    subst c11; (rw [if_neg (show ¬ (false = true) by decide)] at H); (replace H := obS H); (obtain ⟨t104, A12, H⟩ := H); (have HC13 := Aside0.mk H); clear H; (have hcz14_0 := cz BK101.out 0); (have hcz14_1 := cz BK101.out 1); (have hcz14_2 := cz BK101.out 2); (have hcz14_3 := cz BK101.out 3); (have hcz14_4 := cz BK101.out 4); (have hcz14_5 := cz BK101.out 5); (have hcz14_6 := cz BK101.out 6); (have hfz14_0 := blk_frozen BK101.out 0); (have hfz14_1 := blk_frozen BK101.out 1); (have hfz14_2 := blk_frozen BK101.out 2); (have hfz14_3 := blk_frozen BK101.out 3); (have hfz14_4 := blk_frozen BK101.out 4); (have hfz14_5 := blk_frozen BK101.out 5); (have hfz14_6 := blk_frozen BK101.out 6); (go_upto_region 4 with (first | ((with_reducible refine gate_callee (f := 53) rfl ?_); refine gL (some 22) Tryd.func53 #[.slice A0 l0.length c0, .string a1_6] ?_; (with_reducible refine (impl_fieldOf.calls _ _ l0 a1_6 t104 _ ?side1 ?side2 A12.out).mono ?_); (case side1 => exact Kd.C_below HR0.out (eI HB)); (case side2 => exact HC0.out); rintro e w15 ⟨rfl, hb⟩; refine ⟨_, rfl, ?_⟩; have n0_ := Aside0.mk (kbI hb BK101); have n1_ := Aside0.mk (sI hb HB); clear BK101 HB; have BK101 := n0_; have HB := n1_; clear n0_ n1_; (try clear hb); (try clear hb2); (try clear hk); (try clear hi)))); ((try simp only [Act.put, aS1, aS2, aS3])); (go_cut [37] (fun v37 wc => ∃ (kq : Nat) (x37_12 : Bool), v37 = .bool x37_12 ∧ Aside0 (impl_isField.j1 kq x37_12 a1_0 a1_1 a1_2 a1_3 l1_4 a1_5 a1_6 = some r) ∧ Aside0 (kq ≤ kj2) ∧ Aside0 (wc.heap[gb101]? = some (.cells #[.string a1_0, .int .i64 a1_1, .int .i64 a1_2, .int .i64 a1_3, (.slice A1_4 l1_4.length c1_4), .bool a1_5, .string a1_6] 31 (0, 0))) ∧ Aside0 (Below w.heap.size w wc)))
    case first =>
     (have H := HC13.out); clear HC13; (by_cases c16 : a1_6.toList = ([] : List UInt8))
     ·rw [if_pos c16] at H
      (have c16b0 : a1_6.toList.isEmpty = true := List.isEmpty_iff.mpr c16); (have c16b1 : (!a1_6.toList.isEmpty) = false := by rw [List.isEmpty_iff.mpr c16]; rfl); (have c16b2 : (a1_6.toList == ([] : List UInt8)) = true := beq_iff_eq.mpr c16); (have c16b3 : (a1_6.toList != ([] : List UInt8)) = false := bne_eq_false_iff_eq.mpr c16); clear c16; ((first | rw [c16b0] | (simp only [i64_w, i32_w]; rw [c16b0]) | skip)); (have H' := Aside0.mk H); clear H; (have hcz17_0 := cz BK101.out 0); (have hcz17_1 := cz BK101.out 1); (have hcz17_2 := cz BK101.out 2); (have hcz17_3 := cz BK101.out 3); (have hcz17_4 := cz BK101.out 4); (have hcz17_5 := cz BK101.out 5); (have hcz17_6 := cz BK101.out 6); (have hfz17_0 := blk_frozen BK101.out 0); (have hfz17_1 := blk_frozen BK101.out 1); (have hfz17_2 := blk_frozen BK101.out 2); (have hfz17_3 := blk_frozen BK101.out 3); (have hfz17_4 := blk_frozen BK101.out 4); (have hfz17_5 := blk_frozen BK101.out 5); (have hfz17_6 := blk_frozen BK101.out 6); (go_wp2); (go_meet)
      case rel => exact ⟨_, (false), (by first | rfl | (simp; done) | (simp [*]; done)), H', ⟨by have := HJ2.out; first | omega | exact Nat.le_refl _⟩, ⟨kI BK101⟩, ⟨eI HB⟩⟩
     ·rw [if_neg c16] at H
      (have c16b0 : a1_6.toList.isEmpty = false := by rw [Bool.eq_false_iff]; exact fun h_ => c16 (List.isEmpty_iff.mp h_)); (have c16b1 : (!a1_6.toList.isEmpty) = true := by rw [show a1_6.toList.isEmpty = false from by rw [Bool.eq_false_iff]; exact fun h_ => c16 (List.isEmpty_iff.mp h_)]; rfl); (have c16b2 : (a1_6.toList == ([] : List UInt8)) = false := beq_eq_false_iff_ne.mpr c16); (have c16b3 : (a1_6.toList != ([] : List UInt8)) = true := bne_iff_ne.mpr c16); ((first | rw [c16b0] | (simp only [i64_w, i32_w]; rw [c16b0]) | skip)); (by_cases c18 : t104 < 0)
      ·rw [if_pos c18] at H
       (have c18b0 := decide_eq_true c18); clear c18; (have H' := Aside0.mk H); clear H; (have hcz19_0 := cz BK101.out 0); (have hcz19_1 := cz BK101.out 1); (have hcz19_2 := cz BK101.out 2); (have hcz19_3 := cz BK101.out 3); (have hcz19_4 := cz BK101.out 4); (have hcz19_5 := cz BK101.out 5); (have hcz19_6 := cz BK101.out 6); (have hfz19_0 := blk_frozen BK101.out 0); (have hfz19_1 := blk_frozen BK101.out 1); (have hfz19_2 := blk_frozen BK101.out 2); (have hfz19_3 := blk_frozen BK101.out 3); (have hfz19_4 := blk_frozen BK101.out 4); (have hfz19_5 := blk_frozen BK101.out 5); (have hfz19_6 := blk_frozen BK101.out 6); (go_wp2); (go_meet)
       case rel => exact ⟨_, (true), (by first | rfl | (simp; done) | (simp [*]; done)), H', ⟨by have := HJ2.out; first | omega | exact Nat.le_refl _⟩, ⟨kI BK101⟩, ⟨eI HB⟩⟩
      ·rw [if_neg c18] at H
       (have c18b0 := decide_eq_false c18); clear c18; (by_cases c20 : 0 ≤ t104)
       ·rw [if_pos c20] at H
        (have c20b0 := decide_eq_true c20); clear c20; (by_cases c21 : t104 < (l0.length : Int))
        ·rw [if_pos c21] at H
         (have c21b0 := decide_eq_true c21); clear c21; (have H' := Aside0.mk H); clear H; (have hcz22_0 := cz BK101.out 0); (have hcz22_1 := cz BK101.out 1); (have hcz22_2 := cz BK101.out 2); (have hcz22_3 := cz BK101.out 3); (have hcz22_4 := cz BK101.out 4); (have hcz22_5 := cz BK101.out 5); (have hcz22_6 := cz BK101.out 6); (have hfz22_0 := blk_frozen BK101.out 0); (have hfz22_1 := blk_frozen BK101.out 1); (have hfz22_2 := blk_frozen BK101.out 2); (have hfz22_3 := blk_frozen BK101.out 3); (have hfz22_4 := blk_frozen BK101.out 4); (have hfz22_5 := blk_frozen BK101.out 5); (have hfz22_6 := blk_frozen BK101.out 6); (have p105 : 0 ≤ (t104 : Int) := odt); (have q105 : t104 < (l0.length : Int) := odt); (obtain ⟨ad105, A105_4, c105_4, e105, hx105_0, hx105_1, hx105_2, hx105_3, hx105_4, hx105_5, hx105_6, hl105_4, hi105_4⟩ := at_T31 HR0.out t104 p105 q105); (cases e105); (replace hx105_0 := hcI HB hx105_0); (replace hx105_1 := hcI HB hx105_1); (replace hx105_2 := hcI HB hx105_2); (replace hx105_3 := hcI HB hx105_3); (replace hx105_4 := hcI HB hx105_4); (replace hx105_5 := hcI HB hx105_5); (replace hx105_6 := hcI HB hx105_6); (have HR105_4 := Aside0.mk hi105_4); (have HC105_4 := Aside0.mk hl105_4); clear hi105_4 hl105_4; (replace p105 := eq_true p105); (replace q105 := eq_true q105); (go_wp2); (go_meet)
         case rel => exact ⟨_, ((((rd_T31 l0 t104).f1) != 4)), (by first | rfl | (simp; done) | (simp [*]; done)), H', ⟨by have := HJ2.out; first | omega | exact Nat.le_refl _⟩, ⟨kI BK101⟩, ⟨eI HB⟩⟩
        ·rw [if_neg c21] at H
         exact absurd H (by simp)
       ·rw [if_neg c20] at H
        exact absurd H (by simp)
    case rest =>
     clear HC13; (try clear c1); (try clear p1); (try clear q1); (try clear hx1); (try clear c2); (try clear p2); (try clear c4); (try clear c5); (try clear c6); (try clear c10); (try clear p10); (try clear q10); (try clear hx10); (try clear c11); (try clear c16); (try clear c16b0); (try clear c16b1); (try clear c16b2); (try clear c18); (try clear c18b0); (try clear c20); (try clear c20b0); (try clear c21); (try clear c21b0); (try clear hcz10_0); (try clear hcz10_1); (try clear hcz10_2); (try clear hcz10_3); (try clear hcz10_4); (try clear hcz10_5); (try clear hcz10_6); (try clear hcz14_0); (try clear hcz14_1); (try clear hcz14_2); (try clear hcz14_3); (try clear hcz14_4); (try clear hcz14_5); (try clear hcz14_6); (try clear hcz17_0); (try clear hcz17_1); (try clear hcz17_2); (try clear hcz17_3); (try clear hcz17_4); (try clear hcz17_5); (try clear hcz17_6); (try clear hcz19_0); (try clear hcz19_1); (try clear hcz19_2); (try clear hcz19_3); (try clear hcz19_4); (try clear hcz19_5); (try clear hcz19_6); (try clear hcz22_0); (try clear hcz22_1); (try clear hcz22_2); (try clear hcz22_3); (try clear hcz22_4); (try clear hcz22_5); (try clear hcz22_6); (try clear hcz8_0); (try clear hcz8_1); (try clear hcz8_2); (try clear hcz8_3); (try clear hcz8_4); (try clear hcz8_5); (try clear hcz8_6); (try clear hfz10_0); (try clear hfz10_1); (try clear hfz10_2); (try clear hfz10_3); (try clear hfz10_4); (try clear hfz10_5); (try clear hfz10_6); (try clear hfz14_0); (try clear hfz14_1); (try clear hfz14_2); (try clear hfz14_3); (try clear hfz14_4); (try clear hfz14_5); (try clear hfz14_6); (try clear hfz17_0); (try clear hfz17_1); (try clear hfz17_2); (try clear hfz17_3); (try clear hfz17_4); (try clear hfz17_5); (try clear hfz17_6); (try clear hfz19_0); (try clear hfz19_1); (try clear hfz19_2); (try clear hfz19_3); (try clear hfz19_4); (try clear hfz19_5); (try clear hfz19_6); (try clear hfz22_0); (try clear hfz22_1); (try clear hfz22_2); (try clear hfz22_3); (try clear hfz22_4); (try clear hfz22_5); (try clear hfz22_6); (try clear hfz8_0); (try clear hfz8_1); (try clear hfz8_2); (try clear hfz8_3); (try clear hfz8_4); (try clear hfz8_5); (try clear hfz8_6); (try clear hx105_0); (try clear hx105_1); (try clear hx105_2); (try clear hx105_3); (try clear hx105_4); (try clear hx105_5); (try clear hx105_6); (try clear p105); (try clear p2); (try clear q105); (obtain ⟨kq, x37_12, rfl, HA, HJ12, BK101, HB⟩ := hcut)
     cases kq with
     | zero => exact absurd HA.out (by simp [impl_isField.j1])
     | succ kj12 =>
      (have H := HA.out); clear HA; (simp only [impl_isField.j1] at H); (by_cases c23 : x37_12 = true); (· subst c23; (rw [if_pos rfl] at H); (obtain rfl := Option.some.inj H); (go_wp2); go_ret; (exact ⟨rfl, eI HB⟩))
      ·replace c23 := Bool.eq_false_iff.mpr c23
       subst c23; (rw [if_neg (show ¬ (false = true) by decide)] at H); (have HC24 := Aside0.mk H); clear H; (go_upto_region 6 with (fail)); (go_cut [46] (fun v46 wc => ∃ (kq : Nat) (x46_23 : Bool), v46 = .bool x46_23 ∧ Aside0 (impl_isField.j2 kq x46_23 a1_0 a1_1 a1_2 a1_3 l1_4 a1_5 a1_6 = some r) ∧ Aside0 (kq ≤ kj12) ∧ Aside0 (wc.heap[gb101]? = some (.cells #[.string a1_0, .int .i64 a1_1, .int .i64 a1_2, .int .i64 a1_3, (.slice A1_4 l1_4.length c1_4), .bool a1_5, .string a1_6] 31 (0, 0))) ∧ Aside0 (Below w.heap.size w wc)))
       case first =>
        (have H := HC24.out); clear HC24; (by_cases c25 : a1_1 = 3)
        ·rw [if_pos c25] at H
         (have c25b0 : (a1_1 == 3) = true := beq_iff_eq.mpr c25); (have c25b1 : (a1_1 != 3) = false := bne_eq_false_iff_eq.mpr c25); clear c25; ((first | rw [c25b0] | (simp only [i64_w, i32_w]; rw [c25b0]) | skip)); (have H' := Aside0.mk H); clear H; (have hcz26_0 := cz BK101.out 0); (have hcz26_1 := cz BK101.out 1); (have hcz26_2 := cz BK101.out 2); (have hcz26_3 := cz BK101.out 3); (have hcz26_4 := cz BK101.out 4); (have hcz26_5 := cz BK101.out 5); (have hcz26_6 := cz BK101.out 6); (have hfz26_0 := blk_frozen BK101.out 0); (have hfz26_1 := blk_frozen BK101.out 1); (have hfz26_2 := blk_frozen BK101.out 2); (have hfz26_3 := blk_frozen BK101.out 3); (have hfz26_4 := blk_frozen BK101.out 4); (have hfz26_5 := blk_frozen BK101.out 5); (have hfz26_6 := blk_frozen BK101.out 6); (go_wp2); (go_meet)
         case rel => exact ⟨_, (false), (by first | rfl | (simp; done) | (simp [*]; done)), H', ⟨by have := HJ2.out; have := HJ12.out; first | omega | exact Nat.le_refl _⟩, ⟨kI BK101⟩, ⟨eI HB⟩⟩
        ·rw [if_neg c25] at H
         (have c25b0 : (a1_1 == 3) = false := beq_eq_false_iff_ne.mpr c25); (have c25b1 : (a1_1 != 3) = true := bne_iff_ne.mpr c25); ((first | rw [c25b0] | (simp only [i64_w, i32_w]; rw [c25b0]) | skip)); (have H' := Aside0.mk H); clear H; (have hcz27_0 := cz BK101.out 0); (have hcz27_1 := cz BK101.out 1); (have hcz27_2 := cz BK101.out 2); (have hcz27_3 := cz BK101.out 3); (have hcz27_4 := cz BK101.out 4); (have hcz27_5 := cz BK101.out 5); (have hcz27_6 := cz BK101.out 6); (have hfz27_0 := blk_frozen BK101.out 0); (have hfz27_1 := blk_frozen BK101.out 1); (have hfz27_2 := blk_frozen BK101.out 2); (have hfz27_3 := blk_frozen BK101.out 3); (have hfz27_4 := blk_frozen BK101.out 4); (have hfz27_5 := blk_frozen BK101.out 5); (have hfz27_6 := blk_frozen BK101.out 6); (go_wp2); (go_meet)
         case rel => exact ⟨_, (decide ((l1_4.length : Int) > 0)), (by first | rfl | (simp; done) | (simp [*]; done)), H', ⟨by have := HJ2.out; have := HJ12.out; first | omega | exact Nat.le_refl _⟩, ⟨kI BK101⟩, ⟨eI HB⟩⟩
       case rest =>
        clear HC24; (try clear c1); (try clear p1); (try clear q1); (try clear hx1); (try clear c2); (try clear p2); (try clear c4); (try clear c5); (try clear c6); (try clear c10); (try clear p10); (try clear q10); (try clear hx10); (try clear c11); (try clear c16); (try clear c16b0); (try clear c16b1); (try clear c16b2); (try clear c18); (try clear c18b0); (try clear c20); (try clear c20b0); (try clear c21); (try clear c21b0); (try clear c23); (try clear c25); (try clear c25b0); (try clear c25b1); (try clear hcz10_0); (try clear hcz10_1); (try clear hcz10_2); (try clear hcz10_3); (try clear hcz10_4); (try clear hcz10_5); (try clear hcz10_6); (try clear hcz14_0); (try clear hcz14_1); (try clear hcz14_2); (try clear hcz14_3); (try clear hcz14_4); (try clear hcz14_5); (try clear hcz14_6); (try clear hcz17_0); (try clear hcz17_1); (try clear hcz17_2); (try clear hcz17_3); (try clear hcz17_4); (try clear hcz17_5); (try clear hcz17_6); (try clear hcz19_0); (try clear hcz19_1); (try clear hcz19_2); (try clear hcz19_3); (try clear hcz19_4); (try clear hcz19_5); (try clear hcz19_6); (try clear hcz22_0); (try clear hcz22_1); (try clear hcz22_2); (try clear hcz22_3); (try clear hcz22_4); (try clear hcz22_5); (try clear hcz22_6); (try clear hcz26_0); (try clear hcz26_1); (try clear hcz26_2); (try clear hcz26_3); (try clear hcz26_4); (try clear hcz26_5); (try clear hcz26_6); (try clear hcz27_0); (try clear hcz27_1); (try clear hcz27_2); (try clear hcz27_3); (try clear hcz27_4); (try clear hcz27_5); (try clear hcz27_6); (try clear hcz8_0); (try clear hcz8_1); (try clear hcz8_2); (try clear hcz8_3); (try clear hcz8_4); (try clear hcz8_5); (try clear hcz8_6); (try clear hfz10_0); (try clear hfz10_1); (try clear hfz10_2); (try clear hfz10_3); (try clear hfz10_4); (try clear hfz10_5); (try clear hfz10_6); (try clear hfz14_0); (try clear hfz14_1); (try clear hfz14_2); (try clear hfz14_3); (try clear hfz14_4); (try clear hfz14_5); (try clear hfz14_6); (try clear hfz17_0); (try clear hfz17_1); (try clear hfz17_2); (try clear hfz17_3); (try clear hfz17_4); (try clear hfz17_5); (try clear hfz17_6); (try clear hfz19_0); (try clear hfz19_1); (try clear hfz19_2); (try clear hfz19_3); (try clear hfz19_4); (try clear hfz19_5); (try clear hfz19_6); (try clear hfz22_0); (try clear hfz22_1); (try clear hfz22_2); (try clear hfz22_3); (try clear hfz22_4); (try clear hfz22_5); (try clear hfz22_6); (try clear hfz26_0); (try clear hfz26_1); (try clear hfz26_2); (try clear hfz26_3); (try clear hfz26_4); (try clear hfz26_5); (try clear hfz26_6); (try clear hfz27_0); (try clear hfz27_1); (try clear hfz27_2); (try clear hfz27_3); (try clear hfz27_4); (try clear hfz27_5); (try clear hfz27_6); (try clear hfz8_0); (try clear hfz8_1); (try clear hfz8_2); (try clear hfz8_3); (try clear hfz8_4); (try clear hfz8_5); (try clear hfz8_6); (try clear hx105_0); (try clear hx105_1); (try clear hx105_2); (try clear hx105_3); (try clear hx105_4); (try clear hx105_5); (try clear hx105_6); (try clear p1); (try clear p10); (try clear p105); (try clear p2); (try clear q1); (try clear q10); (try clear q105); (obtain ⟨kq, x46_23, rfl, HA, HJ23, BK101, HB⟩ := hcut)
        cases kq with
        | zero => exact absurd HA.out (by simp [impl_isField.j2])
        | succ kj23 =>
         (have H := HA.out); clear HA; (simp only [impl_isField.j2] at H); (by_cases c28 : x46_23 = true); (· subst c28; (rw [if_pos rfl] at H); (obtain rfl := Option.some.inj H); (go_wp2); go_ret; (exact ⟨rfl, eI HB⟩))
         ·replace c28 := Bool.eq_false_iff.mpr c28
          subst c28; (rw [if_neg (show ¬ (false = true) by decide)] at H); (by_cases c29 : a1_1 = 1)
          ·rw [if_pos c29] at H
           (have c29b0 : (a1_1 == 1) = true := beq_iff_eq.mpr c29); (have c29b1 : (a1_1 != 1) = false := bne_eq_false_iff_eq.mpr c29); clear c29; (by_cases c30 : a1_2 ≥ (-999999))
           ·rw [if_pos c30] at H
            (have c30b0 : decide ((-999999) ≤ a1_2) = true := decide_eq_true c30); clear c30; (by_cases c31 : a1_2 ≤ a1_3)
            ·rw [if_pos c31] at H
             (have c31b0 := decide_eq_true c31); clear c31; (obtain rfl := Option.some.inj H); (have hcz32_0 := cz BK101.out 0); (have hcz32_1 := cz BK101.out 1); (have hcz32_2 := cz BK101.out 2); (have hcz32_3 := cz BK101.out 3); (have hcz32_4 := cz BK101.out 4); (have hcz32_5 := cz BK101.out 5); (have hcz32_6 := cz BK101.out 6); (have hfz32_0 := blk_frozen BK101.out 0); (have hfz32_1 := blk_frozen BK101.out 1); (have hfz32_2 := blk_frozen BK101.out 2); (have hfz32_3 := blk_frozen BK101.out 3); (have hfz32_4 := blk_frozen BK101.out 4); (have hfz32_5 := blk_frozen BK101.out 5); (have hfz32_6 := blk_frozen BK101.out 6); (go_wp2); go_ret; (exact ⟨rfl, eI HB⟩)
            ·rw [if_neg c31] at H
             (have c31b0 := decide_eq_false c31); clear c31; (obtain rfl := Option.some.inj H); (have hcz33_0 := cz BK101.out 0); (have hcz33_1 := cz BK101.out 1); (have hcz33_2 := cz BK101.out 2); (have hcz33_3 := cz BK101.out 3); (have hcz33_4 := cz BK101.out 4); (have hcz33_5 := cz BK101.out 5); (have hcz33_6 := cz BK101.out 6); (have hfz33_0 := blk_frozen BK101.out 0); (have hfz33_1 := blk_frozen BK101.out 1); (have hfz33_2 := blk_frozen BK101.out 2); (have hfz33_3 := blk_frozen BK101.out 3); (have hfz33_4 := blk_frozen BK101.out 4); (have hfz33_5 := blk_frozen BK101.out 5); (have hfz33_6 := blk_frozen BK101.out 6); (go_wp2); go_ret; (exact ⟨rfl, eI HB⟩)
           ·rw [if_neg c30] at H
            (have c30b0 : decide ((-999999) ≤ a1_2) = false := decide_eq_false c30); clear c30; (obtain rfl := Option.some.inj H); (have hcz34_0 := cz BK101.out 0); (have hcz34_1 := cz BK101.out 1); (have hcz34_2 := cz BK101.out 2); (have hcz34_3 := cz BK101.out 3); (have hcz34_4 := cz BK101.out 4); (have hcz34_5 := cz BK101.out 5); (have hcz34_6 := cz BK101.out 6); (have hfz34_0 := blk_frozen BK101.out 0); (have hfz34_1 := blk_frozen BK101.out 1); (have hfz34_2 := blk_frozen BK101.out 2); (have hfz34_3 := blk_frozen BK101.out 3); (have hfz34_4 := blk_frozen BK101.out 4); (have hfz34_5 := blk_frozen BK101.out 5); (have hfz34_6 := blk_frozen BK101.out 6); (go_wp2); go_ret; (exact ⟨rfl, eI HB⟩)
          ·rw [if_neg c29] at H
           (have c29b0 : (a1_1 == 1) = false := beq_eq_false_iff_ne.mpr c29); (have c29b1 : (a1_1 != 1) = true := bne_iff_ne.mpr c29); (by_cases c35 : a1_1 = 2)
           ·rw [if_pos c35] at H
            (have c35b0 : (a1_1 == 2) = true := beq_iff_eq.mpr c35); (have c35b1 : (a1_1 != 2) = false := bne_eq_false_iff_eq.mpr c35); clear c35; (by_cases c36 : a1_2 ≥ 0)
            ·rw [if_pos c36] at H
             (have c36b0 : decide (0 ≤ a1_2) = true := decide_eq_true c36); clear c36; (by_cases c37 : a1_2 ≤ a1_3)
             ·rw [if_pos c37] at H
              (have c37b0 := decide_eq_true c37); clear c37; (obtain rfl := Option.some.inj H); (have hcz38_0 := cz BK101.out 0); (have hcz38_1 := cz BK101.out 1); (have hcz38_2 := cz BK101.out 2); (have hcz38_3 := cz BK101.out 3); (have hcz38_4 := cz BK101.out 4); (have hcz38_5 := cz BK101.out 5); (have hcz38_6 := cz BK101.out 6); (have hfz38_0 := blk_frozen BK101.out 0); (have hfz38_1 := blk_frozen BK101.out 1); (have hfz38_2 := blk_frozen BK101.out 2); (have hfz38_3 := blk_frozen BK101.out 3); (have hfz38_4 := blk_frozen BK101.out 4); (have hfz38_5 := blk_frozen BK101.out 5); (have hfz38_6 := blk_frozen BK101.out 6); (go_wp2); go_ret; (exact ⟨rfl, eI HB⟩)
             ·rw [if_neg c37] at H
              (have c37b0 := decide_eq_false c37); clear c37; (obtain rfl := Option.some.inj H); (have hcz39_0 := cz BK101.out 0); (have hcz39_1 := cz BK101.out 1); (have hcz39_2 := cz BK101.out 2); (have hcz39_3 := cz BK101.out 3); (have hcz39_4 := cz BK101.out 4); (have hcz39_5 := cz BK101.out 5); (have hcz39_6 := cz BK101.out 6); (have hfz39_0 := blk_frozen BK101.out 0); (have hfz39_1 := blk_frozen BK101.out 1); (have hfz39_2 := blk_frozen BK101.out 2); (have hfz39_3 := blk_frozen BK101.out 3); (have hfz39_4 := blk_frozen BK101.out 4); (have hfz39_5 := blk_frozen BK101.out 5); (have hfz39_6 := blk_frozen BK101.out 6); (go_wp2); go_ret; (exact ⟨rfl, eI HB⟩)
            ·rw [if_neg c36] at H
             (have c36b0 : decide (0 ≤ a1_2) = false := decide_eq_false c36); clear c36; (obtain rfl := Option.some.inj H); (have hcz40_0 := cz BK101.out 0); (have hcz40_1 := cz BK101.out 1); (have hcz40_2 := cz BK101.out 2); (have hcz40_3 := cz BK101.out 3); (have hcz40_4 := cz BK101.out 4); (have hcz40_5 := cz BK101.out 5); (have hcz40_6 := cz BK101.out 6); (have hfz40_0 := blk_frozen BK101.out 0); (have hfz40_1 := blk_frozen BK101.out 1); (have hfz40_2 := blk_frozen BK101.out 2); (have hfz40_3 := blk_frozen BK101.out 3); (have hfz40_4 := blk_frozen BK101.out 4); (have hfz40_5 := blk_frozen BK101.out 5); (have hfz40_6 := blk_frozen BK101.out 6); (go_wp2); go_ret; (exact ⟨rfl, eI HB⟩)
           ·rw [if_neg c35] at H
            (have c35b0 : (a1_1 == 2) = false := beq_eq_false_iff_ne.mpr c35); (have c35b1 : (a1_1 != 2) = true := bne_iff_ne.mpr c35); (by_cases c41 : a1_1 = 3)
            ·rw [if_pos c41] at H
             (have c41b0 : (a1_1 == 3) = true := beq_iff_eq.mpr c41); (have c41b1 : (a1_1 != 3) = false := bne_eq_false_iff_eq.mpr c41); clear c41; (have H' := Aside0.mk H); clear H; (have hcz42_0 := cz BK101.out 0); (have hcz42_1 := cz BK101.out 1); (have hcz42_2 := cz BK101.out 2); (have hcz42_3 := cz BK101.out 3); (have hcz42_4 := cz BK101.out 4); (have hcz42_5 := cz BK101.out 5); (have hcz42_6 := cz BK101.out 6); (have hfz42_0 := blk_frozen BK101.out 0); (have hfz42_1 := blk_frozen BK101.out 1); (have hfz42_2 := blk_frozen BK101.out 2); (have hfz42_3 := blk_frozen BK101.out 3); (have hfz42_4 := blk_frozen BK101.out 4); (have hfz42_5 := blk_frozen BK101.out 5); (have hfz42_6 := blk_frozen BK101.out 6); (go_wp2); (go_loopg [88] kj23 (fun kq v88 w' => ∃ (x88_4 : Int), v88 = .int .i64 x88_4 ∧ Aside0 (impl_isField.l0 kq l1_4 (l1_4.length : Int) x88_4 a1_0 a1_1 a1_2 a1_3 l1_4 a1_5 a1_6 = some r) ∧ Aside0 (kq ≤ kj23) ∧ Aside0 (w'.heap[gb101]? = some (.cells #[.string a1_0, .int .i64 a1_1, .int .i64 a1_2, .int .i64 a1_3, (.slice A1_4 l1_4.length c1_4), .bool a1_5, .string a1_6] 31 (0, 0))) ∧ Aside0 (Below w.heap.size w w')))
             case atStart => exact ⟨(0), (by first | rfl | (simp; done) | (simp [*]; done)), H', ⟨Nat.le_refl _⟩, ⟨kI BK101⟩, ⟨eI HB⟩⟩
             case round =>
              (clear H'); (try clear c1); (try clear p1); (try clear q1); (try clear hx1); (try clear c2); (try clear p2); (try clear c3); (try clear c4); (try clear c5); (try clear c6); (try clear c10); (try clear p10); (try clear q10); (try clear hx10); (try clear c11); (try clear c16); (try clear c16b0); (try clear c16b1); (try clear c16b2); (try clear c18); (try clear c18b0); (try clear c20); (try clear c20b0); (try clear c21); (try clear c21b0); (try clear c23); (try clear c25); (try clear c25b0); (try clear c25b1); (try clear c28); (try clear c29); (try clear c29b0); (try clear c29b1); (try clear c30); (try clear c30b0); (try clear c31); (try clear c31b0); (try clear c35); (try clear c35b0); (try clear c35b1); (try clear c36); (try clear c36b0); (try clear c37); (try clear c37b0); (try clear c41); (try clear c41b0); (try clear c41b1); (try clear hcz10_0); (try clear hcz10_1); (try clear hcz10_2); (try clear hcz10_3); (try clear hcz10_4); (try clear hcz10_5); (try clear hcz10_6); (try clear hcz14_0); (try clear hcz14_1); (try clear hcz14_2); (try clear hcz14_3); (try clear hcz14_4); (try clear hcz14_5); (try clear hcz14_6); (try clear hcz17_0); (try clear hcz17_1); (try clear hcz17_2); (try clear hcz17_3); (try clear hcz17_4); (try clear hcz17_5); (try clear hcz17_6); (try clear hcz19_0); (try clear hcz19_1); (try clear hcz19_2); (try clear hcz19_3); (try clear hcz19_4); (try clear hcz19_5); (try clear hcz19_6); (try clear hcz22_0); (try clear hcz22_1); (try clear hcz22_2); (try clear hcz22_3); (try clear hcz22_4); (try clear hcz22_5); (try clear hcz22_6); (try clear hcz26_0); (try clear hcz26_1); (try clear hcz26_2); (try clear hcz26_3); (try clear hcz26_4); (try clear hcz26_5); (try clear hcz26_6); (try clear hcz27_0); (try clear hcz27_1); (try clear hcz27_2); (try clear hcz27_3); (try clear hcz27_4); (try clear hcz27_5); (try clear hcz27_6); (try clear hcz32_0); (try clear hcz32_1); (try clear hcz32_2); (try clear hcz32_3); (try clear hcz32_4); (try clear hcz32_5); (try clear hcz32_6); (try clear hcz33_0); (try clear hcz33_1); (try clear hcz33_2); (try clear hcz33_3); (try clear hcz33_4); (try clear hcz33_5); (try clear hcz33_6); (try clear hcz34_0); (try clear hcz34_1); (try clear hcz34_2); (try clear hcz34_3); (try clear hcz34_4); (try clear hcz34_5); (try clear hcz34_6); (try clear hcz38_0); (try clear hcz38_1); (try clear hcz38_2); (try clear hcz38_3); (try clear hcz38_4); (try clear hcz38_5); (try clear hcz38_6); (try clear hcz39_0); (try clear hcz39_1); (try clear hcz39_2); (try clear hcz39_3); (try clear hcz39_4); (try clear hcz39_5); (try clear hcz39_6); (try clear hcz40_0); (try clear hcz40_1); (try clear hcz40_2); (try clear hcz40_3); (try clear hcz40_4); (try clear hcz40_5); (try clear hcz40_6); (try clear hcz42_0); (try clear hcz42_1); (try clear hcz42_2); (try clear hcz42_3); (try clear hcz42_4); (try clear hcz42_5); (try clear hcz42_6); (try clear hcz8_0); (try clear hcz8_1); (try clear hcz8_2); (try clear hcz8_3); (try clear hcz8_4); (try clear hcz8_5); (try clear hcz8_6); (try clear hfz10_0); (try clear hfz10_1); (try clear hfz10_2); (try clear hfz10_3); (try clear hfz10_4); (try clear hfz10_5); (try clear hfz10_6); (try clear hfz14_0); (try clear hfz14_1); (try clear hfz14_2); (try clear hfz14_3); (try clear hfz14_4); (try clear hfz14_5); (try clear hfz14_6); (try clear hfz17_0); (try clear hfz17_1); (try clear hfz17_2); (try clear hfz17_3); (try clear hfz17_4); (try clear hfz17_5); (try clear hfz17_6); (try clear hfz19_0); (try clear hfz19_1); (try clear hfz19_2); (try clear hfz19_3); (try clear hfz19_4); (try clear hfz19_5); (try clear hfz19_6); (try clear hfz22_0); (try clear hfz22_1); (try clear hfz22_2); (try clear hfz22_3); (try clear hfz22_4); (try clear hfz22_5); (try clear hfz22_6); (try clear hfz26_0); (try clear hfz26_1); (try clear hfz26_2); (try clear hfz26_3); (try clear hfz26_4); (try clear hfz26_5); (try clear hfz26_6); (try clear hfz27_0); (try clear hfz27_1); (try clear hfz27_2); (try clear hfz27_3); (try clear hfz27_4); (try clear hfz27_5); (try clear hfz27_6); (try clear hfz32_0); (try clear hfz32_1); (try clear hfz32_2); (try clear hfz32_3); (try clear hfz32_4); (try clear hfz32_5); (try clear hfz32_6); (try clear hfz33_0); (try clear hfz33_1); (try clear hfz33_2); (try clear hfz33_3); (try clear hfz33_4); (try clear hfz33_5); (try clear hfz33_6); (try clear hfz34_0); (try clear hfz34_1); (try clear hfz34_2); (try clear hfz34_3); (try clear hfz34_4); (try clear hfz34_5); (try clear hfz34_6); (try clear hfz38_0); (try clear hfz38_1); (try clear hfz38_2); (try clear hfz38_3); (try clear hfz38_4); (try clear hfz38_5); (try clear hfz38_6); (try clear hfz39_0); (try clear hfz39_1); (try clear hfz39_2); (try clear hfz39_3); (try clear hfz39_4); (try clear hfz39_5); (try clear hfz39_6); (try clear hfz40_0); (try clear hfz40_1); (try clear hfz40_2); (try clear hfz40_3); (try clear hfz40_4); (try clear hfz40_5); (try clear hfz40_6); (try clear hfz42_0); (try clear hfz42_1); (try clear hfz42_2); (try clear hfz42_3); (try clear hfz42_4); (try clear hfz42_5); (try clear hfz42_6); (try clear hfz8_0); (try clear hfz8_1); (try clear hfz8_2); (try clear hfz8_3); (try clear hfz8_4); (try clear hfz8_5); (try clear hfz8_6); (try clear hx105_0); (try clear hx105_1); (try clear hx105_2); (try clear hx105_3); (try clear hx105_4); (try clear hx105_5); (try clear hx105_6); (try clear p1); (try clear p10); (try clear p105); (try clear p2); (try clear q1); (try clear q10); (try clear q105); (obtain ⟨x88_4, rfl, HA, HK4, BK101, HB⟩ := hrel)
              cases gk with
              | zero => exact absurd HA.out (by simp [impl_isField.l0])
              | succ k4 =>
               (have H := HA.out); clear HA; (simp only [impl_isField.l0] at H); (by_cases c43 : x88_4 < (l1_4.length : Int))
               ·rw [if_pos c43] at H
                (have c43b0 := decide_eq_true c43); clear c43; (by_cases c44 : 0 ≤ x88_4)
                ·rw [if_pos c44] at H
                 (have c44b0 := decide_eq_true c44); clear c44; (by_cases c45 : x88_4 < (l1_4.length : Int))
                 ·rw [if_pos c45] at H
                  (have c45b0 := decide_eq_true c45); clear c45; (replace H := obS H); (obtain ⟨t108, A46, H⟩ := H); (by_cases c47 : t108 = true)
                  ·subst c47
                   (rw [if_pos rfl] at H); (have c48b0 := eq_true (odt : 0 ≤ x88_4)); (by_cases c49 : x88_4 ≤ (l1_4.length : Int))
                   ·rw [if_pos c49] at H
                    (have c49b0 := eq_true c49); (have c49b1 := decide_eq_true c49); clear c49; (replace H := obS H); (obtain ⟨t110, A50, H⟩ := H); (by_cases c51 : t110 = true)
                    ·subst c51
                     (rw [if_pos rfl] at H); (obtain rfl := Option.some.inj H); (have p107 : 0 ≤ (x88_4 : Int) := odt); (have q107 : x88_4 < (l1_4.length : Int) := odt); (obtain ⟨ad107, e107, hx107_0⟩ := Kd.at_string HR1_4.out x88_4 p107 q107); (cases e107); (replace hx107_0 := hcI HB hx107_0); (replace p107 := eq_true p107); (replace q107 := eq_true q107); (go_wp2_with (first | ((with_reducible refine gate_callee (f := 52) rfl ?_); refine gL (some 94) Tryd.func52 #[.string (rdOf ByteArray.empty l1_4 x88_4)] ?_; (with_reducible refine (impl_isName.calls k4 (rdOf ByteArray.empty l1_4 x88_4) true _ A46.out).mono ?_); rintro e w' ⟨rfl, ⟨nd, rfl⟩⟩; refine ⟨_, rfl, ?_⟩; have hcz52_0 := cz BK101.out 0; have hcz52_1 := cz BK101.out 1; have hcz52_2 := cz BK101.out 2; have hcz52_3 := cz BK101.out 3; have hcz52_4 := cz BK101.out 4; have hcz52_5 := cz BK101.out 5; have hcz52_6 := cz BK101.out 6; have hfz52_0 := blk_frozen BK101.out 0; have hfz52_1 := blk_frozen BK101.out 1; have hfz52_2 := blk_frozen BK101.out 2; have hfz52_3 := blk_frozen BK101.out 3; have hfz52_4 := blk_frozen BK101.out 4; have hfz52_5 := blk_frozen BK101.out 5; have hfz52_6 := blk_frozen BK101.out 6; obtain ⟨i053, hi053, _, hsz53, _⟩ := info_parts info9; obtain ⟨hcut53, hA53, hC53⟩ := print_take_of (P := Tryd.prog) Value.string (⟨#[]⟩ : ByteArray) 28 9 .i64 Tryd.underlying28 hi053 hsz53 (some ad107) c1_4 l1_4 x88_4 odt odt HC1_4.out; have HR109 := Aside0.mk (Kd.C_of_reads (h1 := fun _ => rfl) (hA53 _ (Kd.reads_of_C HR1_4.out))); have HC109 := Aside0.mk hC53; clear hA53 hC53 hi053 hsz53) | (go_at_call 26; refine calls_of_args (args' := #[.slice (some ad107) (l1_4.take (x88_4 : Int).toNat).length c1_4, .string (rdOf ByteArray.empty l1_4 x88_4)]) (by first | (rw [show (l1_4.take (x88_4 : Int).toNat).length = x88_4.toNat from (by rw [List.length_take]; have h_ : (x88_4 : Int) ≤ (l1_4.length : Int) := odt; omega)] <;> rfl) | rfl) ?_; (with_reducible refine (slices_Contains_string_string.calls k4 _ _ (l1_4.take (x88_4 : Int).toNat) (rdOf ByteArray.empty l1_4 x88_4) true _ ?side1 ?side2 A50.out).mono ?_); (case side1 => exact Kd.C_below HR109.out (eI HB)); (case side2 => exact HC109.out); rintro e w' ⟨rfl, ⟨nd, rfl⟩⟩))); go_ret; (exact ⟨rfl, eI HB⟩)
                    ·replace c51 := Bool.eq_false_iff.mpr c51
                     subst c51; (rw [if_neg (show ¬ (false = true) by decide)] at H); (have H' := Aside0.mk H); clear H; (have p107 : 0 ≤ (x88_4 : Int) := odt); (have q107 : x88_4 < (l1_4.length : Int) := odt); (obtain ⟨ad107, e107, hx107_0⟩ := Kd.at_string HR1_4.out x88_4 p107 q107); (cases e107); (replace hx107_0 := hcI HB hx107_0); (replace p107 := eq_true p107); (replace q107 := eq_true q107); (go_wp2_with (first | ((with_reducible refine gate_callee (f := 52) rfl ?_); refine gL (some 94) Tryd.func52 #[.string (rdOf ByteArray.empty l1_4 x88_4)] ?_; (with_reducible refine (impl_isName.calls k4 (rdOf ByteArray.empty l1_4 x88_4) true _ A46.out).mono ?_); rintro e w' ⟨rfl, ⟨nd, rfl⟩⟩; refine ⟨_, rfl, ?_⟩; have hcz54_0 := cz BK101.out 0; have hcz54_1 := cz BK101.out 1; have hcz54_2 := cz BK101.out 2; have hcz54_3 := cz BK101.out 3; have hcz54_4 := cz BK101.out 4; have hcz54_5 := cz BK101.out 5; have hcz54_6 := cz BK101.out 6; have hfz54_0 := blk_frozen BK101.out 0; have hfz54_1 := blk_frozen BK101.out 1; have hfz54_2 := blk_frozen BK101.out 2; have hfz54_3 := blk_frozen BK101.out 3; have hfz54_4 := blk_frozen BK101.out 4; have hfz54_5 := blk_frozen BK101.out 5; have hfz54_6 := blk_frozen BK101.out 6; obtain ⟨i055, hi055, _, hsz55, _⟩ := info_parts info9; obtain ⟨hcut55, hA55, hC55⟩ := print_take_of (P := Tryd.prog) Value.string (⟨#[]⟩ : ByteArray) 28 9 .i64 Tryd.underlying28 hi055 hsz55 (some ad107) c1_4 l1_4 x88_4 odt odt HC1_4.out; have HR109 := Aside0.mk (Kd.C_of_reads (h1 := fun _ => rfl) (hA55 _ (Kd.reads_of_C HR1_4.out))); have HC109 := Aside0.mk hC55; clear hA55 hC55 hi055 hsz55) | (go_at_call 26; refine calls_of_args (args' := #[.slice (some ad107) (l1_4.take (x88_4 : Int).toNat).length c1_4, .string (rdOf ByteArray.empty l1_4 x88_4)]) (by first | (rw [show (l1_4.take (x88_4 : Int).toNat).length = x88_4.toNat from (by rw [List.length_take]; have h_ : (x88_4 : Int) ≤ (l1_4.length : Int) := odt; omega)] <;> rfl) | rfl) ?_; (with_reducible refine (slices_Contains_string_string.calls k4 _ _ (l1_4.take (x88_4 : Int).toNat) (rdOf ByteArray.empty l1_4 x88_4) false _ ?side1 ?side2 A50.out).mono ?_); (case side1 => exact Kd.C_below HR109.out (eI HB)); (case side2 => exact HC109.out); rintro e w' ⟨rfl, ⟨nd, rfl⟩⟩))); go_roundg k4
                     case measure => have := HJ2.out; have := HJ12.out; have := HJ23.out; have := HK4.out; omega
                     case rel => exact ⟨(wrap64 (x88_4 + 1)), (by first | rfl | (simp; done) | (simp [*]; done)), H', ⟨by have := HJ2.out; have := HJ12.out; have := HJ23.out; have := HK4.out; omega⟩, ⟨kI BK101⟩, ⟨eI HB⟩⟩
                   ·rw [if_neg c49] at H
                    exact absurd H (by simp)
                  ·replace c47 := Bool.eq_false_iff.mpr c47
                   subst c47; (rw [if_neg (show ¬ (false = true) by decide)] at H); (obtain rfl := Option.some.inj H); (have p107 : 0 ≤ (x88_4 : Int) := odt); (have q107 : x88_4 < (l1_4.length : Int) := odt); (obtain ⟨ad107, e107, hx107_0⟩ := Kd.at_string HR1_4.out x88_4 p107 q107); (cases e107); (replace hx107_0 := hcI HB hx107_0); (replace p107 := eq_true p107); (replace q107 := eq_true q107); (go_wp2_with (first | ((with_reducible refine gate_callee (f := 52) rfl ?_); refine gL (some 94) Tryd.func52 #[.string (rdOf ByteArray.empty l1_4 x88_4)] ?_; (with_reducible refine (impl_isName.calls k4 (rdOf ByteArray.empty l1_4 x88_4) false _ A46.out).mono ?_); rintro e w' ⟨rfl, ⟨nd, rfl⟩⟩; refine ⟨_, rfl, ?_⟩))); go_ret; (exact ⟨rfl, eI HB⟩)
                 ·rw [if_neg c45] at H
                  exact absurd H (by simp)
                ·rw [if_neg c44] at H
                 exact absurd H (by simp)
               ·rw [if_neg c43] at H
                (have c43b0 := decide_eq_false c43); clear c43; (replace H := obS H); (obtain ⟨t106, A56, H⟩ := H); (by_cases c57 : t106 = true)
                ·subst c57
                 (rw [if_pos rfl] at H); (by_cases c58 : a1_2 = 0)
                 ·rw [if_pos c58] at H
                  (have c58b0 : (a1_2 == 0) = true := beq_iff_eq.mpr c58); (have c58b1 : (a1_2 != 0) = false := bne_eq_false_iff_eq.mpr c58); clear c58; (obtain rfl := Option.some.inj H); (have hcz59_0 := cz BK101.out 0); (have hcz59_1 := cz BK101.out 1); (have hcz59_2 := cz BK101.out 2); (have hcz59_3 := cz BK101.out 3); (have hcz59_4 := cz BK101.out 4); (have hcz59_5 := cz BK101.out 5); (have hcz59_6 := cz BK101.out 6); (have hfz59_0 := blk_frozen BK101.out 0); (have hfz59_1 := blk_frozen BK101.out 1); (have hfz59_2 := blk_frozen BK101.out 2); (have hfz59_3 := blk_frozen BK101.out 3); (have hfz59_4 := blk_frozen BK101.out 4); (have hfz59_5 := blk_frozen BK101.out 5); (have hfz59_6 := blk_frozen BK101.out 6); (go_wp2_with (first | ((with_reducible refine gate_callee (f := 40) rfl ?_); refine gL (some 108) Tryd.func40 #[.int .i64 (l1_4.length : Int), .int .i64 1, .int .i64 6] ?_; (with_reducible refine (impl_within.calls (l1_4.length : Int) 1 6 true _ A56.out).mono ?_); rintro e w' ⟨rfl, ⟨nd, rfl⟩⟩; refine ⟨_, rfl, ?_⟩))); go_ret; (exact ⟨rfl, eI HB⟩)
                 ·rw [if_neg c58] at H
                  (have c58b0 : (a1_2 == 0) = false := beq_eq_false_iff_ne.mpr c58); (have c58b1 : (a1_2 != 0) = true := bne_iff_ne.mpr c58); (obtain rfl := Option.some.inj H); (have hcz60_0 := cz BK101.out 0); (have hcz60_1 := cz BK101.out 1); (have hcz60_2 := cz BK101.out 2); (have hcz60_3 := cz BK101.out 3); (have hcz60_4 := cz BK101.out 4); (have hcz60_5 := cz BK101.out 5); (have hcz60_6 := cz BK101.out 6); (have hfz60_0 := blk_frozen BK101.out 0); (have hfz60_1 := blk_frozen BK101.out 1); (have hfz60_2 := blk_frozen BK101.out 2); (have hfz60_3 := blk_frozen BK101.out 3); (have hfz60_4 := blk_frozen BK101.out 4); (have hfz60_5 := blk_frozen BK101.out 5); (have hfz60_6 := blk_frozen BK101.out 6); (go_wp2_with (first | ((with_reducible refine gate_callee (f := 40) rfl ?_); refine gL (some 108) Tryd.func40 #[.int .i64 (l1_4.length : Int), .int .i64 1, .int .i64 6] ?_; (with_reducible refine (impl_within.calls (l1_4.length : Int) 1 6 true _ A56.out).mono ?_); rintro e w' ⟨rfl, ⟨nd, rfl⟩⟩; refine ⟨_, rfl, ?_⟩))); go_ret; (exact ⟨rfl, eI HB⟩)
                ·replace c57 := Bool.eq_false_iff.mpr c57
                 subst c57; (rw [if_neg (show ¬ (false = true) by decide)] at H); (obtain rfl := Option.some.inj H); (have hcz61_0 := cz BK101.out 0); (have hcz61_1 := cz BK101.out 1); (have hcz61_2 := cz BK101.out 2); (have hcz61_3 := cz BK101.out 3); (have hcz61_4 := cz BK101.out 4); (have hcz61_5 := cz BK101.out 5); (have hcz61_6 := cz BK101.out 6); (have hfz61_0 := blk_frozen BK101.out 0); (have hfz61_1 := blk_frozen BK101.out 1); (have hfz61_2 := blk_frozen BK101.out 2); (have hfz61_3 := blk_frozen BK101.out 3); (have hfz61_4 := blk_frozen BK101.out 4); (have hfz61_5 := blk_frozen BK101.out 5); (have hfz61_6 := blk_frozen BK101.out 6); (go_wp2_with (first | ((with_reducible refine gate_callee (f := 40) rfl ?_); refine gL (some 108) Tryd.func40 #[.int .i64 (l1_4.length : Int), .int .i64 1, .int .i64 6] ?_; (with_reducible refine (impl_within.calls (l1_4.length : Int) 1 6 false _ A56.out).mono ?_); rintro e w' ⟨rfl, ⟨nd, rfl⟩⟩; refine ⟨_, rfl, ?_⟩))); go_ret; (exact ⟨rfl, eI HB⟩)
            ·rw [if_neg c41] at H
             (have c41b0 : (a1_1 == 3) = false := beq_eq_false_iff_ne.mpr c41); (have c41b1 : (a1_1 != 3) = true := bne_iff_ne.mpr c41); (by_cases c62 : a1_1 = 4)
             ·rw [if_pos c62] at H
              (have c62b0 : (a1_1 == 4) = true := beq_iff_eq.mpr c62); (have c62b1 : (a1_1 != 4) = false := bne_eq_false_iff_eq.mpr c62); clear c62; (by_cases c63 : a1_2 = 0)
              ·rw [if_pos c63] at H
               (have c63b0 : (a1_2 == 0) = true := beq_iff_eq.mpr c63); (have c63b1 : (a1_2 != 0) = false := bne_eq_false_iff_eq.mpr c63); clear c63; (obtain rfl := Option.some.inj H); (have hcz64_0 := cz BK101.out 0); (have hcz64_1 := cz BK101.out 1); (have hcz64_2 := cz BK101.out 2); (have hcz64_3 := cz BK101.out 3); (have hcz64_4 := cz BK101.out 4); (have hcz64_5 := cz BK101.out 5); (have hcz64_6 := cz BK101.out 6); (have hfz64_0 := blk_frozen BK101.out 0); (have hfz64_1 := blk_frozen BK101.out 1); (have hfz64_2 := blk_frozen BK101.out 2); (have hfz64_3 := blk_frozen BK101.out 3); (have hfz64_4 := blk_frozen BK101.out 4); (have hfz64_5 := blk_frozen BK101.out 5); (have hfz64_6 := blk_frozen BK101.out 6); (go_wp2); go_ret; (exact ⟨rfl, eI HB⟩)
              ·rw [if_neg c63] at H
               (have c63b0 : (a1_2 == 0) = false := beq_eq_false_iff_ne.mpr c63); (have c63b1 : (a1_2 != 0) = true := bne_iff_ne.mpr c63); (obtain rfl := Option.some.inj H); (have hcz65_0 := cz BK101.out 0); (have hcz65_1 := cz BK101.out 1); (have hcz65_2 := cz BK101.out 2); (have hcz65_3 := cz BK101.out 3); (have hcz65_4 := cz BK101.out 4); (have hcz65_5 := cz BK101.out 5); (have hcz65_6 := cz BK101.out 6); (have hfz65_0 := blk_frozen BK101.out 0); (have hfz65_1 := blk_frozen BK101.out 1); (have hfz65_2 := blk_frozen BK101.out 2); (have hfz65_3 := blk_frozen BK101.out 3); (have hfz65_4 := blk_frozen BK101.out 4); (have hfz65_5 := blk_frozen BK101.out 5); (have hfz65_6 := blk_frozen BK101.out 6); (go_wp2); go_ret; (exact ⟨rfl, eI HB⟩)
             ·rw [if_neg c62] at H
              (have c62b0 : (a1_1 == 4) = false := beq_eq_false_iff_ne.mpr c62); (have c62b1 : (a1_1 != 4) = true := bne_iff_ne.mpr c62); (obtain rfl := Option.some.inj H); (have hcz66_0 := cz BK101.out 0); (have hcz66_1 := cz BK101.out 1); (have hcz66_2 := cz BK101.out 2); (have hcz66_3 := cz BK101.out 3); (have hcz66_4 := cz BK101.out 4); (have hcz66_5 := cz BK101.out 5); (have hcz66_6 := cz BK101.out 6); (have hfz66_0 := blk_frozen BK101.out 0); (have hfz66_1 := blk_frozen BK101.out 1); (have hfz66_2 := blk_frozen BK101.out 2); (have hfz66_3 := blk_frozen BK101.out 3); (have hfz66_4 := blk_frozen BK101.out 4); (have hfz66_5 := blk_frozen BK101.out 5); (have hfz66_6 := blk_frozen BK101.out 6); (go_wp2); go_ret; (exact ⟨rfl, eI HB⟩)

end Go.Proofs.YtcjloeeomhiblaaDoor.X
