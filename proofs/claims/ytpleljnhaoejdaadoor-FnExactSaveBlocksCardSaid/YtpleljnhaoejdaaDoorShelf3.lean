/-
  Contracts of library functions at this seat, laid by the kit's tools.
  No conditions.
-/
import Derived.Shelf.Strings.Builder1
import Derived.Shelf.Strings.Builder2
import Derived.Shelf.Strings.OnBuilder
import Derived.Shelf.Small.Utf8
import Derived.Shelf.Small.Bits
import Derived.Shelf.Small.Strs
import Derived.Shelf.Strings.BuilderF
import Derived.Shelf.Strings.BuilderK
import Derived.Shelf.Strings.BuilderRune
import Derived.Shelf.Strconv.Itoa0
import Derived.Shelf.Strconv.Itoa1
import Derived.Shelf.LaysM
import Derived.Shelf.Strconv.Itoa2
import Derived.Shelf.Strconv.Itoa3
import Derived.Shelf.Strconv.Itoa4
import Derived.Shelf.Strings.Search1
import Derived.Shelf.Strings.Search2
import Derived.Shelf.Strings.Search3
import Derived.Shelf.Strings.Cut
import Derived.Shelf.Strings.Count
import Derived.Shelf.Strings.Shaped
import Derived.Shelf.Sort.Plain
import Derived.Shelf.Unicode.Latin
import Derived.Shelf.Unicode.DecodeSlow
import Derived.Shelf.Unicode.DecodeAny
import Derived.Shelf.Strings.FieldsFuncAny
import Derived.Shelf.Unicode.CaseLookup
import Derived.Shelf.Unicode.CaseConvert
import Derived.Shelf.Unicode.CaseTo
import Derived.Shelf.Unicode.CaseLaid
import Derived.Shelf.Strings.MapAny
import Derived.Shelf.Strings.CaseAny
import Derived.Shelf.Strings.FieldsFuncGrows
import Derived.Shelf.Slices.CompactS
import Derived.Shelf.Slices.In.SortNone
import Derived.Test.YtpleljnhaoejdaaDoorProg
namespace Go.Proofs
open Go.Shelf
def Tryd.lays190_ren : Go.Shelf.Ren := ⟨fun | 190 => 126 | 125 => 155 | 258 => 154 | 128 => 193 | 129 => 194 | 302 => 184 | 303 => 185 | 304 => 186 | 305 => 187 | 306 => 188 | 307 => 189 | 308 => 190 | 309 => 191 | 310 => 192 | 333 => 214 | 329 => 215 | 330 => 216 | 334 => 217 | 335 => 218 | 336 => 219 | 344 => 231 | n => n, fun | 31 => 30 | 9 => 9 | 3 => 3 | 46 => 134 | 0 => 0 | 51 => 205 | 53 => 143 | 4 => 4 | 183 => 199 | 182 => 198 | 131 => 151 | 5 => 5 | 218 => 218 | 222 => 222 | 228 => 235 | 229 => 236 | n => n, fun | n => n⟩
theorem Tryd.lays190 : Go.Proofs.Lays.n190 Tryd.prog Tryd.lays190_ren := {
  mixed := by kernel_rfl
  f125 := Tryd.func155.trans (congrArg some (by kernel_rfl))
  f128 := Tryd.func193.trans (congrArg some (by kernel_rfl))
  f129 := Tryd.func194.trans (congrArg some (by kernel_rfl))
  f190 := Tryd.func126.trans (congrArg some (by kernel_rfl))
  f258 := Tryd.func154.trans (congrArg some (by kernel_rfl))
  f302 := Tryd.func184.trans (congrArg some (by kernel_rfl))
  f303 := Tryd.func185.trans (congrArg some (by kernel_rfl))
  f304 := Tryd.func186.trans (congrArg some (by kernel_rfl))
  f305 := Tryd.func187.trans (congrArg some (by kernel_rfl))
  f306 := Tryd.func188.trans (congrArg some (by kernel_rfl))
  f307 := Tryd.func189.trans (congrArg some (by kernel_rfl))
  f308 := Tryd.func190.trans (congrArg some (by kernel_rfl))
  f309 := Tryd.func191.trans (congrArg some (by kernel_rfl))
  f310 := Tryd.func192.trans (congrArg some (by kernel_rfl))
  f329 := Tryd.func215.trans (congrArg some (by kernel_rfl))
  f330 := Tryd.func216.trans (congrArg some (by kernel_rfl))
  f333 := Tryd.func214.trans (congrArg some (by kernel_rfl))
  f334 := Tryd.func217.trans (congrArg some (by kernel_rfl))
  f335 := Tryd.func218.trans (congrArg some (by kernel_rfl))
  f336 := Tryd.func219.trans (congrArg some (by kernel_rfl))
  f344 := Tryd.func231.trans (congrArg some (by kernel_rfl))
  t0 := Tryd.underlying0
  a0 := Tryd.isAgg0
  z0 := Tryd.sizeOf0
  v0 := Tryd.zeroValue0
  t3 := Tryd.underlying3
  a3 := Tryd.isAgg3
  z3 := Tryd.sizeOf3
  v3 := Tryd.zeroValue3
  t4 := Tryd.underlying4
  a4 := Tryd.isAgg4
  z4 := Tryd.sizeOf4
  v4 := Tryd.zeroValue4
  t5 := Tryd.underlying5
  a5 := Tryd.isAgg5
  z5 := Tryd.sizeOf5
  v5 := Tryd.zeroValue5
  t9 := Tryd.underlying9
  a9 := Tryd.isAgg9
  z9 := Tryd.sizeOf9
  v9 := Tryd.zeroValue9
  t31 := Tryd.underlying30
  a31 := Tryd.isAgg30
  z31 := Tryd.sizeOf30
  v31 := Tryd.zeroValue30
  t46 := Tryd.underlying134
  a46 := Tryd.isAgg134
  z46 := Tryd.sizeOf134
  v46 := Tryd.zeroValue134
  t51 := Tryd.underlying205
  a51 := Tryd.isAgg205
  z51 := Tryd.sizeOf205
  v51 := Tryd.zeroValue205
  t53 := Tryd.underlying143
  a53 := Tryd.isAgg143
  z53 := Tryd.sizeOf143
  v53 := Tryd.zeroValue143
  t131 := Tryd.underlying151
  a131 := Tryd.isAgg151
  z131 := Tryd.sizeOf151
  v131 := Tryd.zeroValue151
  t182 := Tryd.underlying198
  a182 := Tryd.isAgg198
  z182 := Tryd.sizeOf198
  v182 := Tryd.zeroValue198
  t183 := Tryd.underlying199
  a183 := Tryd.isAgg199
  z183 := Tryd.sizeOf199
  v183 := Tryd.zeroValue199
  t218 := Tryd.underlying218
  a218 := Tryd.isAgg218
  z218 := Tryd.sizeOf218
  v218 := Tryd.zeroValue218
  t222 := Tryd.underlying222
  a222 := Tryd.isAgg222
  z222 := Tryd.sizeOf222
  v222 := Tryd.zeroValue222
  t228 := Tryd.underlying235
  a228 := Tryd.isAgg235
  z228 := Tryd.sizeOf235
  v228 := Tryd.zeroValue235
  t229 := Tryd.underlying236
  a229 := Tryd.isAgg236
  z229 := Tryd.sizeOf236
  v229 := Tryd.zeroValue236 }
open Go.Sort Go.RowKit in
theorem Tryd.slices_Sort_string (blk off cap : Nat) (ss : List (List UInt8)) (w : World) (hH : Holds encStr w blk off ss.toArray) (hblk : blk < w.heap.size) (hsz : ss.length < 4611686018427387904) :
    Calls Tryd.prog 126 #[.slice (some ⟨blk, off, none⟩) ss.length cap] w fun e w' =>
      e = .returned (.tuple #[]) ∧ ∃ n os, w' = grow (putRow encStr (Sort.ahead w n) blk off (ss.mergeSort fun x y => decide (x ≤ y)).toArray) os := Any.slices_Sort_string Tryd.lays190 blk off cap ss w hH hblk hsz
open Go.RowKit Go.Sort in
/-- .. and plain. (LAID: no walk: one application.) -/
theorem Tryd.slices_Sort_string_none (p : Option Addr) (cap : Nat) (w : World) :
    Calls Tryd.prog 126 #[.slice p 0 cap] w fun e w' => e = .returned (.tuple #[]) ∧ w' = w := Any.slices_Sort_string_none Tryd.lays190 p cap w
end Go.Proofs
