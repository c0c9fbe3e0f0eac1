/-
  DERIVED: THE SHELF's CONTRACTS AT THIS DUMP, IN PLAIN WORDS (tools/lay-plain.mjs out of 'TryzShelf.lean', which tools/lay-shelf.mjs wrote): THE SAME DECLARATIONS UNDER THE SAME NAMES: 'import', 'namespace', 'open', 'def', 'theorem' AND NOTHING ELSE: no command of the shelf's: FOR A HAND-IN. Each laying: the table of numbers ('.._ren') and one theorem, a field a fact of the dump's own or the kernel's comparison; each contract: ONE APPLICATION.
-/
import Derived.Shelf.Strings.Builder1
import Derived.Shelf.Strings.Builder2
import Derived.Shelf.Strings.OnBuilder
import Derived.Shelf.Small.Utf8
import Derived.Shelf.Small.Bits
import Derived.Shelf.Small.Strs
import Derived.Shelf.Strings.BuilderF
import Derived.Shelf.Strings.BuilderK
import Derived.Shelf.Strings.BuilderRune
import Derived.Shelf.Utf8.RuneCount
import Derived.Shelf.Strings.Builder2Cap
import Derived.Shelf.Strconv.Itoa0
import Derived.Shelf.Strconv.Itoa1
import Derived.Shelf.LaysM
import Derived.Shelf.Strconv.Itoa2
import Derived.Shelf.Strconv.Itoa3
import Derived.Shelf.Strconv.Itoa4
import Derived.Shelf.Strconv.ParseIntEmpty
import Derived.Shelf.Strconv.Clone
import Derived.Shelf.Strconv.SyntaxError
import Derived.Shelf.LaysC
import Derived.Shelf.Strconv.ToError
import Derived.Shelf.Strconv.Lower
import Derived.Shelf.Strconv.ParseUint10
import Derived.Shelf.Strconv.ParseUint10Empty
import Derived.Shelf.Strconv.ParseUint10Any
import Derived.Shelf.Strconv.ParseInt10
import Derived.Shelf.Strconv.RangeError
import Derived.Shelf.Strconv.ToErrorRange
import Derived.Shelf.Strconv.ParseUintEmpty
import Derived.Shelf.Strconv.ParseUint10b64
import Derived.Shelf.Strconv.ParseUint10b32
import Derived.Shelf.Strconv.ParseUint10b16
import Derived.Shelf.Strconv.ParseUint10b8
import Derived.Shelf.Strconv.ParseUint10At
import Derived.Shelf.Strconv.ParseInt10At64
import Derived.Shelf.Strconv.ParseInt10At32
import Derived.Shelf.Strconv.ParseInt10At16
import Derived.Shelf.Strconv.ParseInt10At8
import Derived.Shelf.Strconv.ParseInt10All
import Derived.Shelf.Strconv.ParseIntPublic10
import Derived.Shelf.Strings.Search1
import Derived.Shelf.Strings.Search2
import Derived.Shelf.Strings.Search3
import Derived.Shelf.Strings.Cut
import Derived.Shelf.Strings.Count
import Derived.Shelf.Strings.Shaped
import Derived.Shelf.Sort.Plain
import Derived.Shelf.Strings.Prefix
import Derived.Shelf.Strings.Split
import Derived.Shelf.Strings.SplitShaped
import Derived.Shelf.Unicode.Latin
import Derived.Shelf.Unicode.Decode
import Derived.Shelf.Strings.RuneCount
import Derived.Shelf.Strings.Explode
import Derived.Shelf.Unicode.DecodeSlow
import Derived.Shelf.Unicode.DecodeAny
import Derived.Shelf.Strings.FieldsFuncAny
import Derived.Shelf.Unicode.CaseLookup
import Derived.Shelf.Unicode.CaseConvert
import Derived.Shelf.Unicode.CaseTo
import Derived.Shelf.Unicode.CaseLaid
import Derived.Shelf.Strings.MapAny
import Derived.Shelf.Strings.CaseAny
import Derived.Shelf.Strings.FieldsFuncGrows
import Derived.Shelf.Slices.CompactS
import Derived.Shelf.Slices.Cells
import Derived.Shelf.Slices.In.SortNone
import Derived.Ground.SlgnProg
import Derived.Shelf.SlicesG.SearchI
import Derived.Test.YtlkjechbejfnhaaGreatDoorProg
namespace Go.Proofs
open Go.Shelf
def Tryz.lays159_ren : Go.Shelf.Ren := ⟨fun | 159 => 275 | 165 => 286 | 166 => 287 | 167 => 313 | 169 => 288 | 230 => 314 | 204 => 315 | 240 => 323 | 241 => 324 | 197 => 320 | 118 => 339 | 168 => 340 | 270 => 341 | 262 => 342 | 276 => 354 | 277 => 355 | 260 => 353 | 242 => 363 | 313 => 364 | 278 => 371 | 274 => 372 | 275 => 373 | n => n, fun | 9 => 9 | 4 => 4 | 3 => 3 | 5 => 5 | 72 => 346 | 0 => 0 | 76 => 348 | 75 => 251 | 107 => 378 | 70 => 344 | 20 => 20 | 37 => 229 | 127 => 388 | 21 => 21 | 105 => 385 | 164 => 414 | 162 => 425 | 203 => 423 | 119 => 432 | 46 => 342 | 139 => 435 | 138 => 434 | 51 => 381 | 160 => 438 | 208 => 447 | 206 => 445 | 80 => 350 | n => n, fun | 13 => 4 | 3 => 5 | 4 => 6 | n => n⟩
theorem Tryz.lays159 : Go.Proofs.Lays.n159 Tryz.prog Tryz.lays159_ren := {
  mixed := by kernel_rfl
  f118 := Tryz.func339.trans (congrArg some (by kernel_rfl))
  f159 := Tryz.func275.trans (congrArg some (by kernel_rfl))
  f165 := Tryz.func286.trans (congrArg some (by kernel_rfl))
  f166 := Tryz.func287.trans (congrArg some (by kernel_rfl))
  f167 := Tryz.func313.trans (congrArg some (by kernel_rfl))
  f168 := Tryz.func340.trans (congrArg some (by kernel_rfl))
  f169 := Tryz.func288.trans (congrArg some (by kernel_rfl))
  f197 := Tryz.func320.trans (congrArg some (by kernel_rfl))
  f204 := Tryz.func315.trans (congrArg some (by kernel_rfl))
  f230 := Tryz.func314.trans (congrArg some (by kernel_rfl))
  f240 := Tryz.func323.trans (congrArg some (by kernel_rfl))
  f241 := Tryz.func324.trans (congrArg some (by kernel_rfl))
  f242 := Tryz.func363.trans (congrArg some (by kernel_rfl))
  f260 := Tryz.func353.trans (congrArg some (by kernel_rfl))
  f262 := Tryz.func342.trans (congrArg some (by kernel_rfl))
  f270 := Tryz.func341.trans (congrArg some (by kernel_rfl))
  f274 := Tryz.func372.trans (congrArg some (by kernel_rfl))
  f275 := Tryz.func373.trans (congrArg some (by kernel_rfl))
  f276 := Tryz.func354.trans (congrArg some (by kernel_rfl))
  f277 := Tryz.func355.trans (congrArg some (by kernel_rfl))
  f278 := Tryz.func371.trans (congrArg some (by kernel_rfl))
  f313 := Tryz.func364.trans (congrArg some (by kernel_rfl))
  t0 := Tryz.underlying0
  a0 := Tryz.isAgg0
  z0 := Tryz.sizeOf0
  v0 := Tryz.zeroValue0
  t3 := Tryz.underlying3
  a3 := Tryz.isAgg3
  z3 := Tryz.sizeOf3
  v3 := Tryz.zeroValue3
  t4 := Tryz.underlying4
  a4 := Tryz.isAgg4
  z4 := Tryz.sizeOf4
  v4 := Tryz.zeroValue4
  t5 := Tryz.underlying5
  a5 := Tryz.isAgg5
  z5 := Tryz.sizeOf5
  v5 := Tryz.zeroValue5
  t9 := Tryz.underlying9
  a9 := Tryz.isAgg9
  z9 := Tryz.sizeOf9
  v9 := Tryz.zeroValue9
  t20 := Tryz.underlying20
  a20 := Tryz.isAgg20
  z20 := Tryz.sizeOf20
  v20 := Tryz.zeroValue20
  t21 := Tryz.underlying21
  a21 := Tryz.isAgg21
  z21 := Tryz.sizeOf21
  v21 := Tryz.zeroValue21
  t37 := Tryz.underlying229
  a37 := Tryz.isAgg229
  z37 := Tryz.sizeOf229
  v37 := Tryz.zeroValue229
  t46 := Tryz.underlying342
  a46 := Tryz.isAgg342
  z46 := Tryz.sizeOf342
  v46 := Tryz.zeroValue342
  t51 := Tryz.underlying381
  a51 := Tryz.isAgg381
  z51 := Tryz.sizeOf381
  v51 := Tryz.zeroValue381
  t70 := Tryz.underlying344
  a70 := Tryz.isAgg344
  z70 := Tryz.sizeOf344
  v70 := Tryz.zeroValue344
  t72 := Tryz.underlying346
  a72 := Tryz.isAgg346
  z72 := Tryz.sizeOf346
  v72 := Tryz.zeroValue346
  t75 := Tryz.underlying251
  a75 := Tryz.isAgg251
  z75 := Tryz.sizeOf251
  v75 := Tryz.zeroValue251
  t76 := Tryz.underlying348
  a76 := Tryz.isAgg348
  z76 := Tryz.sizeOf348
  v76 := Tryz.zeroValue348
  t105 := Tryz.underlying385
  a105 := Tryz.isAgg385
  z105 := Tryz.sizeOf385
  v105 := Tryz.zeroValue385
  t107 := Tryz.underlying378
  a107 := Tryz.isAgg378
  z107 := Tryz.sizeOf378
  v107 := Tryz.zeroValue378
  t119 := Tryz.underlying432
  a119 := Tryz.isAgg432
  z119 := Tryz.sizeOf432
  t127 := Tryz.underlying388
  a127 := Tryz.isAgg388
  z127 := Tryz.sizeOf388
  v127 := Tryz.zeroValue388
  t138 := Tryz.underlying434
  a138 := Tryz.isAgg434
  z138 := Tryz.sizeOf434
  v138 := Tryz.zeroValue434
  t139 := Tryz.underlying435
  a139 := Tryz.isAgg435
  z139 := Tryz.sizeOf435
  v139 := Tryz.zeroValue435
  t160 := Tryz.underlying438
  a160 := Tryz.isAgg438
  z160 := Tryz.sizeOf438
  v160 := Tryz.zeroValue438
  t162 := Tryz.underlying425
  a162 := Tryz.isAgg425
  z162 := Tryz.sizeOf425
  v162 := Tryz.zeroValue425
  t164 := Tryz.underlying414
  a164 := Tryz.isAgg414
  z164 := Tryz.sizeOf414
  v164 := Tryz.zeroValue414
  t203 := Tryz.underlying423
  a203 := Tryz.isAgg423
  z203 := Tryz.sizeOf423
  v203 := Tryz.zeroValue423
  t206 := Tryz.underlying445
  a206 := Tryz.isAgg445
  z206 := Tryz.sizeOf445
  v206 := Tryz.zeroValue445
  t208 := Tryz.underlying447
  a208 := Tryz.isAgg447
  z208 := Tryz.sizeOf447
  v208 := Tryz.zeroValue447
  g3 := by kernel_rfl
  g4 := by kernel_rfl
  g13 := by kernel_rfl }
theorem Tryz.Builder_Extra_159 : Builder.Extra Tryz.prog Tryz.lays159_ren := {
  sizeBuilder := by kernel_rfl
  liesBuilder := by kernel_rfl
  t5 := Tryz.underlying5
  a5 := Tryz.isAgg5
  z5 := Tryz.sizeOf5
  v5 := Tryz.zeroValue5
  infoByte := by kernel_rfl
  cellsByte := by kernel_rfl
  sizeByte := by kernel_rfl
  neB5 := by decide }
open Go.RowKit in
/-- strings.ToLower: "ToLower returns s with all Unicode letters mapped to their lower case.": ON ASCII TEXT OF AT MOST 2^47 BYTES. Below the heap's end the world is as it was: where a letter turns, the call makes a builder and its buffer. (LAID: no walk: one application.) -/
theorem Tryz.strings_ToLower_ascii (s : ByteArray) (w : World) (hs : s.size ≤ 140737488355328) (hascii : ∀ (j : Nat) (b : UInt8), s.data.toList[j]? = some b → b.toNat < 128) :
    Calls Tryz.prog 275 #[.string s] w fun e w' => e = .returned (.string ⟨(Lib.toLowerA s.data.toList).toArray⟩) ∧ Below w.heap.size w w' := Any.strings_ToLower_ascii Tryz.lays159 Tryz.Builder_Extra_159 s w hs hascii
def Tryz.lays156_ren : Go.Shelf.Ren := ⟨fun | 156 => 229 | 165 => 286 | 166 => 287 | 169 => 288 | 240 => 323 | 241 => 324 | 276 => 354 | 277 => 355 | n => n, fun | 31 => 155 | 9 => 9 | 3 => 3 | 4 => 4 | 0 => 0 | 20 => 20 | 72 => 346 | 76 => 348 | 70 => 344 | 37 => 229 | 75 => 251 | 127 => 388 | 164 => 414 | 5 => 5 | 80 => 350 | n => n, fun | n => n⟩
theorem Tryz.lays156 : Go.Proofs.Lays.n156 Tryz.prog Tryz.lays156_ren := {
  mixed := by kernel_rfl
  f156 := Tryz.func229.trans (congrArg some (by kernel_rfl))
  f165 := Tryz.func286.trans (congrArg some (by kernel_rfl))
  f166 := Tryz.func287.trans (congrArg some (by kernel_rfl))
  f169 := Tryz.func288.trans (congrArg some (by kernel_rfl))
  f240 := Tryz.func323.trans (congrArg some (by kernel_rfl))
  f241 := Tryz.func324.trans (congrArg some (by kernel_rfl))
  f276 := Tryz.func354.trans (congrArg some (by kernel_rfl))
  f277 := Tryz.func355.trans (congrArg some (by kernel_rfl))
  t0 := Tryz.underlying0
  a0 := Tryz.isAgg0
  z0 := Tryz.sizeOf0
  v0 := Tryz.zeroValue0
  t3 := Tryz.underlying3
  a3 := Tryz.isAgg3
  z3 := Tryz.sizeOf3
  v3 := Tryz.zeroValue3
  t4 := Tryz.underlying4
  a4 := Tryz.isAgg4
  z4 := Tryz.sizeOf4
  v4 := Tryz.zeroValue4
  t9 := Tryz.underlying9
  a9 := Tryz.isAgg9
  z9 := Tryz.sizeOf9
  v9 := Tryz.zeroValue9
  t20 := Tryz.underlying20
  a20 := Tryz.isAgg20
  z20 := Tryz.sizeOf20
  v20 := Tryz.zeroValue20
  t31 := Tryz.underlying155
  a31 := Tryz.isAgg155
  z31 := Tryz.sizeOf155
  v31 := Tryz.zeroValue155
  t37 := Tryz.underlying229
  a37 := Tryz.isAgg229
  z37 := Tryz.sizeOf229
  v37 := Tryz.zeroValue229
  t70 := Tryz.underlying344
  a70 := Tryz.isAgg344
  z70 := Tryz.sizeOf344
  v70 := Tryz.zeroValue344
  t72 := Tryz.underlying346
  a72 := Tryz.isAgg346
  z72 := Tryz.sizeOf346
  v72 := Tryz.zeroValue346
  t75 := Tryz.underlying251
  a75 := Tryz.isAgg251
  z75 := Tryz.sizeOf251
  v75 := Tryz.zeroValue251
  t76 := Tryz.underlying348
  a76 := Tryz.isAgg348
  z76 := Tryz.sizeOf348
  v76 := Tryz.zeroValue348
  t127 := Tryz.underlying388
  a127 := Tryz.isAgg388
  z127 := Tryz.sizeOf388
  v127 := Tryz.zeroValue388
  t164 := Tryz.underlying414
  a164 := Tryz.isAgg414
  z164 := Tryz.sizeOf414
  v164 := Tryz.zeroValue414 }
theorem Tryz.Builder_Extra_156 : Builder.Extra Tryz.prog Tryz.lays156_ren := {
  sizeBuilder := by kernel_rfl
  liesBuilder := by kernel_rfl
  t5 := Tryz.underlying5
  a5 := Tryz.isAgg5
  z5 := Tryz.sizeOf5
  v5 := Tryz.zeroValue5
  infoByte := by kernel_rfl
  cellsByte := by kernel_rfl
  sizeByte := by kernel_rfl
  neB5 := by decide }
open Go.RowKit in
/-- No element: the empty string; the world is as it was. (Whatever the slice's address and capacity: a nil slice too.) (LAID: no walk: one application.) -/
theorem Tryz.strings_Join_none (a : Option Addr) (c : Nat) (sep : ByteArray) (w : World) :
    Calls Tryz.prog 229 #[.slice a 0 c, .string sep] w fun e w' => e = .returned (.string ⟨#[]⟩) ∧ w' = w := Any.strings_Join_none Tryz.lays156 Tryz.Builder_Extra_156 a c sep w
open Go.RowKit in
/-- strings.Join: "Join concatenates the elements of its first argument to create a single string. The separator string sep is placed between elements in the resulting string.": HOWEVER MANY ELEMENTS. Below the heap's end the world is as it was. (LAID: no walk: one application.) -/
theorem Tryz.strings_Join (bk o c : Nat) (xs : List ByteArray) (sep : ByteArray) (w : World) (hcells : ∀ (j : Nat) x, xs[j]? = some x → w.cell? ⟨bk, o + j, none⟩ = some (.string x)) (hbk : bk < w.heap.size) (hN : xs.length ≤ 140737488355328) (hcap : xs.length ≤ c) (hlen : (Lib.join (xs.map (·.data.toList)) sep.data.toList).length ≤ 140737488355328) :
    Calls Tryz.prog 229 #[.slice (some ⟨bk, o, none⟩) xs.length c, .string sep] w fun e w' => e = .returned (.string ⟨(Lib.join (xs.map (·.data.toList)) sep.data.toList).toArray⟩) ∧ Below w.heap.size w w' := Any.strings_Join Tryz.lays156 Tryz.Builder_Extra_156 bk o c xs sep w hcells hbk hN hcap hlen
def Tryz.laysM246_ren : Go.Shelf.Ren := ⟨fun | 246 => 268 | 283 => 307 | 284 => 308 | 285 => 309 | 286 => 310 | 129 => 335 | 317 => 334 | 318 => 336 | 319 => 337 | 320 => 338 | 337 => 361 | 338 => 362 | n => n, fun | 2 => 2 | 3 => 3 | 9 => 9 | 4 => 4 | 171 => 367 | 0 => 0 | 53 => 352 | 37 => 229 | 5 => 5 | 173 => 370 | 212 => 398 | 51 => 381 | 20 => 20 | 213 => 399 | 46 => 342 | 232 => 436 | 233 => 437 | n => n, fun | 17 => 3 | 18 => 7 | 19 => 8 | n => n⟩
theorem Tryz.laysM246 : Go.Proofs.LaysM.n246 Tryz.prog Tryz.laysM246_ren := {
  mixed := by kernel_rfl
  f129 := Tryz.func335.trans (congrArg some (by kernel_rfl))
  f246 := Tryz.func268.trans (congrArg some (by kernel_rfl))
  f283 := Tryz.func307.trans (congrArg some (by kernel_rfl))
  f284 := Tryz.func308.trans (congrArg some (by kernel_rfl))
  f285 := Tryz.func309.trans (congrArg some (by kernel_rfl))
  f286 := Tryz.func310.trans (congrArg some (by kernel_rfl))
  f317 := Tryz.func334.trans (congrArg some (by kernel_rfl))
  f318 := Tryz.func336.trans (congrArg some (by kernel_rfl))
  f319 := Tryz.func337.trans (congrArg some (by kernel_rfl))
  f320 := Tryz.func338.trans (congrArg some (by kernel_rfl))
  f337 := Tryz.func361.trans (congrArg some (by kernel_rfl))
  f338 := Tryz.func362.trans (congrArg some (by kernel_rfl))
  t0 := Tryz.underlying0
  a0 := Tryz.isAgg0
  z0 := Tryz.sizeOf0
  v0 := Tryz.zeroValue0
  t2 := Tryz.underlying2
  a2 := Tryz.isAgg2
  z2 := Tryz.sizeOf2
  v2 := Tryz.zeroValue2
  t3 := Tryz.underlying3
  a3 := Tryz.isAgg3
  z3 := Tryz.sizeOf3
  v3 := Tryz.zeroValue3
  t4 := Tryz.underlying4
  a4 := Tryz.isAgg4
  z4 := Tryz.sizeOf4
  v4 := Tryz.zeroValue4
  t5 := Tryz.underlying5
  a5 := Tryz.isAgg5
  z5 := Tryz.sizeOf5
  v5 := Tryz.zeroValue5
  t9 := Tryz.underlying9
  a9 := Tryz.isAgg9
  z9 := Tryz.sizeOf9
  v9 := Tryz.zeroValue9
  t20 := Tryz.underlying20
  a20 := Tryz.isAgg20
  z20 := Tryz.sizeOf20
  v20 := Tryz.zeroValue20
  t37 := Tryz.underlying229
  a37 := Tryz.isAgg229
  z37 := Tryz.sizeOf229
  v37 := Tryz.zeroValue229
  t46 := Tryz.underlying342
  a46 := Tryz.isAgg342
  z46 := Tryz.sizeOf342
  v46 := Tryz.zeroValue342
  t51 := Tryz.underlying381
  a51 := Tryz.isAgg381
  z51 := Tryz.sizeOf381
  v51 := Tryz.zeroValue381
  t53 := Tryz.underlying352
  a53 := Tryz.isAgg352
  z53 := Tryz.sizeOf352
  v53 := Tryz.zeroValue352
  t171 := Tryz.underlying367
  a171 := Tryz.isAgg367
  z171 := Tryz.sizeOf367
  v171 := Tryz.zeroValue367
  t173 := Tryz.underlying370
  a173 := Tryz.isAgg370
  z173 := Tryz.sizeOf370
  v173 := Tryz.zeroValue370
  t212 := Tryz.underlying398
  a212 := Tryz.isAgg398
  z212 := Tryz.sizeOf398
  v212 := Tryz.zeroValue398
  t213 := Tryz.underlying399
  a213 := Tryz.isAgg399
  z213 := Tryz.sizeOf399
  t232 := Tryz.underlying436
  a232 := Tryz.isAgg436
  z232 := Tryz.sizeOf436
  v232 := Tryz.zeroValue436
  t233 := Tryz.underlying437
  a233 := Tryz.isAgg437
  z233 := Tryz.sizeOf437
  v233 := Tryz.zeroValue437
  g17 := by kernel_rfl
  g18 := by kernel_rfl
  g19 := by kernel_rfl
  i0 := by kernel_rfl
  i2 := by kernel_rfl
  i3 := by kernel_rfl
  i4 := by kernel_rfl
  i5 := by kernel_rfl
  i9 := by kernel_rfl
  i20 := by kernel_rfl
  i37 := by kernel_rfl
  i46 := by kernel_rfl
  i51 := by kernel_rfl
  i53 := by kernel_rfl
  i171 := by kernel_rfl
  i173 := by kernel_rfl
  i212 := by kernel_rfl
  i232 := by kernel_rfl
  i233 := by kernel_rfl
  m17 := by kernel_rfl
  m18 := by kernel_rfl
  m19 := by kernel_rfl }
open Go.RowKit Go.Sort Go.Lib in
/-- internal/strconv.FormatInt: "FormatInt returns the string representation of i in the given base": AT BASE 10: i's decimal numeral, for every int64. The world behind the call: the world before it, new blocks behind the heap, draws. (LAID: no walk: one application.) -/
theorem Tryz.internal_strconv_FormatInt_10 (n : Int) (h0 : -9223372036854775808 ≤ n) (h1 : n ≤ 9223372036854775807) (w : World) (htab : Lib.TabIs Tryz.prog w "internal/strconv.uint64pow10" .u64 Lib.pow10Tab) :
    Calls Tryz.prog 268 #[.int .i64 n, .int .i64 10] w fun e w' => e = .returned (.string ⟨(Lib.itoa n).toArray⟩) ∧ ∃ k os, w' = grow (w.drewN k) os := Any.internal_strconv_FormatInt_10 Tryz.laysM246 n h0 h1 w htab
def Tryz.laysC174_ren : Go.Shelf.Ren := ⟨fun | 174 => 174 | 247 => 231 | 245 => 232 | 287 => 290 | 279 => 291 | 280 => 292 | 281 => 293 | 282 => 294 | 321 => 325 | 322 => 326 | 316 => 327 | 171 => 329 | 205 => 328 | 243 => 356 | 246 => 268 | 283 => 307 | 284 => 308 | 285 => 309 | 286 => 310 | 129 => 335 | 317 => 334 | 318 => 336 | 319 => 337 | 320 => 338 | 337 => 361 | 338 => 362 | n => n, fun | 9 => 9 | 3 => 3 | 2 => 2 | 75 => 251 | 85 => 252 | 4 => 4 | 167 => 351 | 5 => 5 | 53 => 352 | 175 => 353 | 46 => 342 | 168 => 355 | 37 => 229 | 0 => 0 | 210 => 391 | 21 => 21 | 127 => 388 | 145 => 419 | 143 => 417 | 171 => 367 | 173 => 370 | 212 => 398 | 51 => 381 | 20 => 20 | 213 => 399 | 232 => 436 | 233 => 437 | 80 => 350 | n => n, fun | 15 => 1 | 16 => 2 | 17 => 3 | 18 => 7 | 19 => 8 | n => n⟩
theorem Tryz.laysC174 : Go.Proofs.LaysC.n174 Tryz.prog Tryz.laysC174_ren := {
  mixed := by kernel_rfl
  f129 := Tryz.func335.trans (congrArg some (by kernel_rfl))
  f171 := Tryz.func329.trans (congrArg some (by kernel_rfl))
  f174 := Tryz.func174.trans (congrArg some (by kernel_rfl))
  f205 := Tryz.func328.trans (congrArg some (by kernel_rfl))
  f243 := Tryz.func356.trans (congrArg some (by kernel_rfl))
  f245 := Tryz.func232.trans (congrArg some (by kernel_rfl))
  f246 := Tryz.func268.trans (congrArg some (by kernel_rfl))
  f247 := Tryz.func231.trans (congrArg some (by kernel_rfl))
  f279 := Tryz.func291.trans (congrArg some (by kernel_rfl))
  f280 := Tryz.func292.trans (congrArg some (by kernel_rfl))
  f281 := Tryz.func293.trans (congrArg some (by kernel_rfl))
  f282 := Tryz.func294.trans (congrArg some (by kernel_rfl))
  f283 := Tryz.func307.trans (congrArg some (by kernel_rfl))
  f284 := Tryz.func308.trans (congrArg some (by kernel_rfl))
  f285 := Tryz.func309.trans (congrArg some (by kernel_rfl))
  f286 := Tryz.func310.trans (congrArg some (by kernel_rfl))
  f287 := Tryz.func290.trans (congrArg some (by kernel_rfl))
  f316 := Tryz.func327.trans (congrArg some (by kernel_rfl))
  f317 := Tryz.func334.trans (congrArg some (by kernel_rfl))
  f318 := Tryz.func336.trans (congrArg some (by kernel_rfl))
  f319 := Tryz.func337.trans (congrArg some (by kernel_rfl))
  f320 := Tryz.func338.trans (congrArg some (by kernel_rfl))
  f321 := Tryz.func325.trans (congrArg some (by kernel_rfl))
  f322 := Tryz.func326.trans (congrArg some (by kernel_rfl))
  f337 := Tryz.func361.trans (congrArg some (by kernel_rfl))
  f338 := Tryz.func362.trans (congrArg some (by kernel_rfl))
  t0 := Tryz.underlying0
  a0 := Tryz.isAgg0
  z0 := Tryz.sizeOf0
  v0 := Tryz.zeroValue0
  t2 := Tryz.underlying2
  a2 := Tryz.isAgg2
  z2 := Tryz.sizeOf2
  v2 := Tryz.zeroValue2
  t3 := Tryz.underlying3
  a3 := Tryz.isAgg3
  z3 := Tryz.sizeOf3
  v3 := Tryz.zeroValue3
  t4 := Tryz.underlying4
  a4 := Tryz.isAgg4
  z4 := Tryz.sizeOf4
  v4 := Tryz.zeroValue4
  t5 := Tryz.underlying5
  a5 := Tryz.isAgg5
  z5 := Tryz.sizeOf5
  v5 := Tryz.zeroValue5
  t9 := Tryz.underlying9
  a9 := Tryz.isAgg9
  z9 := Tryz.sizeOf9
  v9 := Tryz.zeroValue9
  t20 := Tryz.underlying20
  a20 := Tryz.isAgg20
  z20 := Tryz.sizeOf20
  v20 := Tryz.zeroValue20
  t21 := Tryz.underlying21
  a21 := Tryz.isAgg21
  z21 := Tryz.sizeOf21
  v21 := Tryz.zeroValue21
  t37 := Tryz.underlying229
  a37 := Tryz.isAgg229
  z37 := Tryz.sizeOf229
  v37 := Tryz.zeroValue229
  t46 := Tryz.underlying342
  a46 := Tryz.isAgg342
  z46 := Tryz.sizeOf342
  v46 := Tryz.zeroValue342
  t51 := Tryz.underlying381
  a51 := Tryz.isAgg381
  z51 := Tryz.sizeOf381
  v51 := Tryz.zeroValue381
  t53 := Tryz.underlying352
  a53 := Tryz.isAgg352
  z53 := Tryz.sizeOf352
  v53 := Tryz.zeroValue352
  t75 := Tryz.underlying251
  a75 := Tryz.isAgg251
  z75 := Tryz.sizeOf251
  v75 := Tryz.zeroValue251
  t85 := Tryz.underlying252
  a85 := Tryz.isAgg252
  z85 := Tryz.sizeOf252
  v85 := Tryz.zeroValue252
  t127 := Tryz.underlying388
  a127 := Tryz.isAgg388
  z127 := Tryz.sizeOf388
  v127 := Tryz.zeroValue388
  t143 := Tryz.underlying417
  a143 := Tryz.isAgg417
  z143 := Tryz.sizeOf417
  v143 := Tryz.zeroValue417
  t145 := Tryz.underlying419
  a145 := Tryz.isAgg419
  z145 := Tryz.sizeOf419
  v145 := Tryz.zeroValue419
  t167 := Tryz.underlying351
  a167 := Tryz.isAgg351
  z167 := Tryz.sizeOf351
  v167 := Tryz.zeroValue351
  t168 := Tryz.underlying355
  a168 := Tryz.isAgg355
  z168 := Tryz.sizeOf355
  v168 := Tryz.zeroValue355
  t171 := Tryz.underlying367
  a171 := Tryz.isAgg367
  z171 := Tryz.sizeOf367
  v171 := Tryz.zeroValue367
  t173 := Tryz.underlying370
  a173 := Tryz.isAgg370
  z173 := Tryz.sizeOf370
  v173 := Tryz.zeroValue370
  t175 := Tryz.underlying353
  a175 := Tryz.isAgg353
  z175 := Tryz.sizeOf353
  v175 := Tryz.zeroValue353
  t210 := Tryz.underlying391
  a210 := Tryz.isAgg391
  z210 := Tryz.sizeOf391
  v210 := Tryz.zeroValue391
  t212 := Tryz.underlying398
  a212 := Tryz.isAgg398
  z212 := Tryz.sizeOf398
  v212 := Tryz.zeroValue398
  t213 := Tryz.underlying399
  a213 := Tryz.isAgg399
  z213 := Tryz.sizeOf399
  t232 := Tryz.underlying436
  a232 := Tryz.isAgg436
  z232 := Tryz.sizeOf436
  v232 := Tryz.zeroValue436
  t233 := Tryz.underlying437
  a233 := Tryz.isAgg437
  z233 := Tryz.sizeOf437
  v233 := Tryz.zeroValue437
  g15 := by kernel_rfl
  g16 := by kernel_rfl
  g17 := by kernel_rfl
  g18 := by kernel_rfl
  g19 := by kernel_rfl
  t80 := Tryz.underlying350
  a80 := Tryz.isAgg350
  z80 := Tryz.sizeOf350
  v80 := Tryz.zeroValue350
  i0 := by kernel_rfl
  i2 := by kernel_rfl
  i3 := by kernel_rfl
  i4 := by kernel_rfl
  i5 := by kernel_rfl
  i9 := by kernel_rfl
  i20 := by kernel_rfl
  i21 := by kernel_rfl
  i37 := by kernel_rfl
  i46 := by kernel_rfl
  i51 := by kernel_rfl
  i53 := by kernel_rfl
  i75 := by kernel_rfl
  i80 := by kernel_rfl
  i85 := by kernel_rfl
  i127 := by kernel_rfl
  i143 := by kernel_rfl
  i145 := by kernel_rfl
  i167 := by kernel_rfl
  i168 := by kernel_rfl
  i171 := by kernel_rfl
  i173 := by kernel_rfl
  i175 := by kernel_rfl
  i210 := by kernel_rfl
  i212 := by kernel_rfl
  i232 := by kernel_rfl
  i233 := by kernel_rfl
  m15 := by kernel_rfl
  m16 := by kernel_rfl
  m17 := by kernel_rfl
  m18 := by kernel_rfl
  m19 := by kernel_rfl
  c0 := by kernel_rfl
  c2 := by kernel_rfl
  c3 := by kernel_rfl
  c4 := by kernel_rfl
  c5 := by kernel_rfl
  c9 := by kernel_rfl
  c20 := by kernel_rfl
  c21 := by kernel_rfl
  c37 := by kernel_rfl
  c46 := by kernel_rfl
  c51 := by kernel_rfl
  c53 := by kernel_rfl
  c75 := by kernel_rfl
  c80 := by kernel_rfl
  c85 := by kernel_rfl
  c127 := by kernel_rfl
  c143 := by kernel_rfl
  c145 := by kernel_rfl
  c167 := by kernel_rfl
  c168 := by kernel_rfl
  c171 := by kernel_rfl
  c173 := by kernel_rfl
  c175 := by kernel_rfl
  c210 := by kernel_rfl
  c212 := by kernel_rfl
  c213 := by kernel_rfl
  c232 := by kernel_rfl
  c233 := by kernel_rfl }
open Go.RowKit in
/-- strconv.ParseInt(s, 10, 64), AT EVERY STRING THAT SPELLS AN int64 ('Lib.parseIntB 64 s.data.toList = .ok v'): v, AND NO ERROR. (LAID: no walk: one application.) -/
theorem Tryz.strconv_ParseInt_10_at64_ok (s : ByteArray) (hmax : s.size ≤ 9223372036854775806) (v : Int) (h : Lib.parseIntB 64 s.data.toList = .ok v) (w : World) :
    Calls Tryz.prog 174 #[.string s, .int .i64 10, .int .i64 64] w fun e w' => e = .returned (.tuple #[.int .i64 v, .nilIface]) ∧ (w' = w ∨ ∃ t, w' = Lib.bytesWorld w 5 t) := Any.strconv_ParseInt_10_at64_ok Tryz.laysC174 s hmax v h w
open Go.RowKit in
/-- strconv.ParseInt(s, 10, 64), AT EVERY STRING THAT IS NO DECIMAL NUMERAL: 0, AND AN ERROR THAT IS NOT nil: a *NumError in a new block N: {Func: "ParseInt", Num: s's bytes, Err: what the variable ErrSyntax holds}. Of what was there nothing has turned. (LAID: no walk: one application.) -/
theorem Tryz.strconv_ParseInt_10_at64_syntax (s : ByteArray) (hlim : s.size ≤ 281474976710656) (h : Lib.parseIntB 64 s.data.toList = .«syntax») (ev : Value) (w : World) (hv : w.cell? ⟨1, 0, none⟩ = some ev) (hev : ev = .nilIface ∨ ∃ te pe, ev = .iface te pe) :
    Calls Tryz.prog 174 #[.string s, .int .i64 10, .int .i64 64] w fun e w' => ∃ N, e = .returned (.tuple #[.int .i64 (0), .iface 355 (.pointer (some ⟨N, 0, none⟩))]) ∧ w.heap.size ≤ N ∧ w'.heap[N]? = some (.cells #[.string ⟨#[80, 97, 114, 115, 101, 73, 110, 116]⟩, .string s, ev] 391 (0, 0)) ∧ Below w.heap.size w w' := Any.strconv_ParseInt_10_at64_syntax Tryz.laysC174 s hlim h ev w hv hev
def Tryz.lays190_ren : Go.Shelf.Ren := ⟨fun | 190 => 277 | 125 => 317 | 258 => 316 | 128 => 352 | 129 => 335 | 302 => 343 | 303 => 344 | 304 => 345 | 305 => 346 | 306 => 347 | 307 => 348 | 308 => 349 | 309 => 350 | 310 => 351 | 333 => 365 | 329 => 366 | 330 => 367 | 334 => 368 | 335 => 369 | 336 => 306 | 344 => 374 | n => n, fun | 31 => 155 | 9 => 9 | 3 => 3 | 46 => 342 | 0 => 0 | 51 => 381 | 53 => 352 | 4 => 4 | 183 => 407 | 182 => 406 | 131 => 411 | 5 => 5 | 218 => 426 | 222 => 430 | 228 => 441 | 229 => 442 | n => n, fun | n => n⟩
theorem Tryz.lays190 : Go.Proofs.Lays.n190 Tryz.prog Tryz.lays190_ren := {
  mixed := by kernel_rfl
  f125 := Tryz.func317.trans (congrArg some (by kernel_rfl))
  f128 := Tryz.func352.trans (congrArg some (by kernel_rfl))
  f129 := Tryz.func335.trans (congrArg some (by kernel_rfl))
  f190 := Tryz.func277.trans (congrArg some (by kernel_rfl))
  f258 := Tryz.func316.trans (congrArg some (by kernel_rfl))
  f302 := Tryz.func343.trans (congrArg some (by kernel_rfl))
  f303 := Tryz.func344.trans (congrArg some (by kernel_rfl))
  f304 := Tryz.func345.trans (congrArg some (by kernel_rfl))
  f305 := Tryz.func346.trans (congrArg some (by kernel_rfl))
  f306 := Tryz.func347.trans (congrArg some (by kernel_rfl))
  f307 := Tryz.func348.trans (congrArg some (by kernel_rfl))
  f308 := Tryz.func349.trans (congrArg some (by kernel_rfl))
  f309 := Tryz.func350.trans (congrArg some (by kernel_rfl))
  f310 := Tryz.func351.trans (congrArg some (by kernel_rfl))
  f329 := Tryz.func366.trans (congrArg some (by kernel_rfl))
  f330 := Tryz.func367.trans (congrArg some (by kernel_rfl))
  f333 := Tryz.func365.trans (congrArg some (by kernel_rfl))
  f334 := Tryz.func368.trans (congrArg some (by kernel_rfl))
  f335 := Tryz.func369.trans (congrArg some (by kernel_rfl))
  f336 := Tryz.func306.trans (congrArg some (by kernel_rfl))
  f344 := Tryz.func374.trans (congrArg some (by kernel_rfl))
  t0 := Tryz.underlying0
  a0 := Tryz.isAgg0
  z0 := Tryz.sizeOf0
  v0 := Tryz.zeroValue0
  t3 := Tryz.underlying3
  a3 := Tryz.isAgg3
  z3 := Tryz.sizeOf3
  v3 := Tryz.zeroValue3
  t4 := Tryz.underlying4
  a4 := Tryz.isAgg4
  z4 := Tryz.sizeOf4
  v4 := Tryz.zeroValue4
  t5 := Tryz.underlying5
  a5 := Tryz.isAgg5
  z5 := Tryz.sizeOf5
  v5 := Tryz.zeroValue5
  t9 := Tryz.underlying9
  a9 := Tryz.isAgg9
  z9 := Tryz.sizeOf9
  v9 := Tryz.zeroValue9
  t31 := Tryz.underlying155
  a31 := Tryz.isAgg155
  z31 := Tryz.sizeOf155
  v31 := Tryz.zeroValue155
  t46 := Tryz.underlying342
  a46 := Tryz.isAgg342
  z46 := Tryz.sizeOf342
  v46 := Tryz.zeroValue342
  t51 := Tryz.underlying381
  a51 := Tryz.isAgg381
  z51 := Tryz.sizeOf381
  v51 := Tryz.zeroValue381
  t53 := Tryz.underlying352
  a53 := Tryz.isAgg352
  z53 := Tryz.sizeOf352
  v53 := Tryz.zeroValue352
  t131 := Tryz.underlying411
  a131 := Tryz.isAgg411
  z131 := Tryz.sizeOf411
  v131 := Tryz.zeroValue411
  t182 := Tryz.underlying406
  a182 := Tryz.isAgg406
  z182 := Tryz.sizeOf406
  v182 := Tryz.zeroValue406
  t183 := Tryz.underlying407
  a183 := Tryz.isAgg407
  z183 := Tryz.sizeOf407
  v183 := Tryz.zeroValue407
  t218 := Tryz.underlying426
  a218 := Tryz.isAgg426
  z218 := Tryz.sizeOf426
  v218 := Tryz.zeroValue426
  t222 := Tryz.underlying430
  a222 := Tryz.isAgg430
  z222 := Tryz.sizeOf430
  v222 := Tryz.zeroValue430
  t228 := Tryz.underlying441
  a228 := Tryz.isAgg441
  z228 := Tryz.sizeOf441
  v228 := Tryz.zeroValue441
  t229 := Tryz.underlying442
  a229 := Tryz.isAgg442
  z229 := Tryz.sizeOf442
  v229 := Tryz.zeroValue442 }
open Go.Sort Go.RowKit in
theorem Tryz.slices_Sort_string (blk off cap : Nat) (ss : List (List UInt8)) (w : World) (hH : Holds encStr w blk off ss.toArray) (hblk : blk < w.heap.size) (hsz : ss.length < 4611686018427387904) :
    Calls Tryz.prog 277 #[.slice (some ⟨blk, off, none⟩) ss.length cap] w fun e w' =>
      e = .returned (.tuple #[]) ∧ ∃ n os, w' = grow (putRow encStr (Sort.ahead w n) blk off (ss.mergeSort fun x y => decide (x ≤ y)).toArray) os := Any.slices_Sort_string Tryz.lays190 blk off cap ss w hH hblk hsz
def Tryz.lays229_ren : Go.Shelf.Ren := ⟨fun | 229 => 274 | n => n, fun | 9 => 9 | 40 => 338 | 31 => 155 | 152 => 373 | 3 => 3 | 0 => 0 | 4 => 4 | 21 => 21 | 154 => 375 | n => n, fun | n => n⟩
theorem Tryz.lays229 : Go.Proofs.Lays.n229 Tryz.prog Tryz.lays229_ren := {
  mixed := by kernel_rfl
  f229 := Tryz.func274.trans (congrArg some (by kernel_rfl))
  t0 := Tryz.underlying0
  a0 := Tryz.isAgg0
  z0 := Tryz.sizeOf0
  v0 := Tryz.zeroValue0
  t3 := Tryz.underlying3
  a3 := Tryz.isAgg3
  z3 := Tryz.sizeOf3
  v3 := Tryz.zeroValue3
  t4 := Tryz.underlying4
  a4 := Tryz.isAgg4
  z4 := Tryz.sizeOf4
  v4 := Tryz.zeroValue4
  t9 := Tryz.underlying9
  a9 := Tryz.isAgg9
  z9 := Tryz.sizeOf9
  v9 := Tryz.zeroValue9
  t21 := Tryz.underlying21
  a21 := Tryz.isAgg21
  z21 := Tryz.sizeOf21
  v21 := Tryz.zeroValue21
  t31 := Tryz.underlying155
  a31 := Tryz.isAgg155
  z31 := Tryz.sizeOf155
  v31 := Tryz.zeroValue155
  t40 := Tryz.underlying338
  a40 := Tryz.isAgg338
  z40 := Tryz.sizeOf338
  v40 := Tryz.zeroValue338
  t152 := Tryz.underlying373
  a152 := Tryz.isAgg373
  z152 := Tryz.sizeOf373
  v152 := Tryz.zeroValue373
  t154 := Tryz.underlying375
  a154 := Tryz.isAgg375
  z154 := Tryz.sizeOf375
  v154 := Tryz.zeroValue375 }
open Go.RowKit Go.Lib in
theorem Tryz.strings_FieldsFunc_grows (g : Nat) (lb : Array Value) (eg : ∀ args w, (callFunc g args).run Tryz.prog w = .ok (.enter g args) w) (p : Nat → Bool) (s : ByteArray) (w : World) (hs : s.size ≤ 4294967296) (hp : PredGrows Tryz.prog g lb p w) :
    Calls Tryz.prog 274 #[.string s, .func (.func g) #[] lb] w fun e w' => ∃ A, e = .returned (.slice (some ⟨A, 0, none⟩) (Lib.goFieldsP p s).length (Lib.goFieldsP p s).length) ∧ w.heap.size ≤ A ∧
      w'.ownsRow w.heap.size 9 1 (.slice (some ⟨A, 0, none⟩) (Lib.goFieldsP p s).length (Lib.goFieldsP p s).length) (Lib.goFieldsP p s).length ((Lib.goFieldsP p s).map Value.string) ∧ Below w.heap.size w w' := Any.strings_FieldsFunc_grows Tryz.lays229 g lb eg p s w hs hp (by kernel_rfl) (by kernel_rfl)
def Tryz.lays194_ren : Go.Shelf.Ren := ⟨fun | 194 => 278 | n => n, fun | 31 => 155 | 9 => 9 | 3 => 3 | 4 => 4 | 0 => 0 | n => n, fun | n => n⟩
theorem Tryz.lays194 : Go.Proofs.Lays.n194 Tryz.prog Tryz.lays194_ren := {
  mixed := by kernel_rfl
  f194 := Tryz.func278.trans (congrArg some (by kernel_rfl))
  t0 := Tryz.underlying0
  a0 := Tryz.isAgg0
  z0 := Tryz.sizeOf0
  v0 := Tryz.zeroValue0
  t3 := Tryz.underlying3
  a3 := Tryz.isAgg3
  z3 := Tryz.sizeOf3
  v3 := Tryz.zeroValue3
  t4 := Tryz.underlying4
  a4 := Tryz.isAgg4
  z4 := Tryz.sizeOf4
  v4 := Tryz.zeroValue4
  t9 := Tryz.underlying9
  a9 := Tryz.isAgg9
  z9 := Tryz.sizeOf9
  v9 := Tryz.zeroValue9
  t31 := Tryz.underlying155
  a31 := Tryz.isAgg155
  z31 := Tryz.sizeOf155
  v31 := Tryz.zeroValue155 }
open Go.RowKit Go.Lib Go.Sort in
/-- slices.Compact at []string: "Compact replaces consecutive runs of equal elements with a single copy. This is like the uniq command found on Unix. Compact modifies the contents of the slice s and returns the modified slice, which may have a smaller length. Compact zeroes the elements between the new length and the original length. The result preserves the nilness of s.": IT RETURNS THE SLICE CUT TO 'Lib.compact zs'; ITS CELLS HOLD 'Lib.compact zs', THEN ZERO VALUES up to the old length; all else is as it was, but for the count of draws. IN THE WORDS OF slices.Sort's CONTRACT ('Holds', 'putRow'): so the everyday 'slices.Sort(xs); xs = slices.Compact(xs)' goes from the one contract to the other. It asks 'zs.length ≤ cap' (every slice's: the reslicing 's[:k]' looks at it). Length 0, nil: '.._empty'. (LAID: no walk: one application.) -/
theorem Tryz.slices_Compact_string (blk off cap : Nat) (zs : List (List UInt8)) (w : World) (hH : Holds encStr w blk off zs.toArray) (hsz : zs.length ≤ 9223372036854775807) (hcap : zs.length ≤ cap) :
    Calls Tryz.prog 278 #[.slice (some ⟨blk, off, none⟩) zs.length cap] w fun e w' => e = .returned (.slice (some ⟨blk, off, none⟩) (Lib.compact zs).length cap) ∧ ∃ q, w' = putRow encStr (Sort.ahead w q) blk off (Lib.compact zs ++ List.replicate (zs.length - (Lib.compact zs).length) []).toArray := Any.slices_Compact_string Tryz.lays194 blk off cap zs w hH hsz hcap
open Go.RowKit Go.Lib Go.Sort in
/-- The same at a slice of length 0, a nil one too: it comes back as it is. (LAID: no walk: one application.) -/
theorem Tryz.slices_Compact_string_empty (a : Option Addr) (cap : Nat) (w : World) :
    Calls Tryz.prog 278 #[.slice a 0 cap] w fun e w' => e = .returned (.slice a 0 cap) ∧ w' = w := Any.slices_Compact_string_empty Tryz.lays194 a cap w
open Go.RowKit Go.Sort in
/-- .. and plain. (LAID: no walk: one application.) -/
theorem Tryz.slices_Sort_string_none (p : Option Addr) (cap : Nat) (w : World) :
    Calls Tryz.prog 277 #[.slice p 0 cap] w fun e w' => e = .returned (.tuple #[]) ∧ w' = w := Any.slices_Sort_string_none Tryz.lays190 p cap w
end Go.Proofs
