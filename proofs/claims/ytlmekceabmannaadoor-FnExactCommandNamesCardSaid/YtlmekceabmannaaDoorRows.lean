/-
  NARROWER THAN 'FOR EVERY INPUT', by the rows' own cells (each row's printed sentence says how): FnExactCommandNames: laid · FnExactMeanError: laid · FnExactWorstMark: laid · FnExactSessionOf: laid · FnExactSaveBlocks: laid · FnExactDamagedLines: laid · FnExactReadSession: laid · FnExactSalvageBlocks: laid · FnSalvage: laid · FnExactLoadBlocks: laid · FnExactStarsOfBlocks: laid.
  DERIVED. THE GIVEN ROWS OF THIS SEAT. 11 by the template 'for every input the law returns true; each argument reads behind the call as it read before'; 0 by the template 'total and deterministic' (their statements: YtlmekceabmannaaDoorTotals.lean).
  GIVEN WITH THE SEED: the statements are not yours to turn. If you find one false, say at which input.
  Laid BY PROGRAM, IN A SANDBOX (cutbox-rows.mjs): the forced cells as the released guide's own fill.sh prints them over the translation fb2285bfca79c6b8… (all of the seat's roots in one cut). By AI agents, Wed Nov 11 2026. No macro, syntax, notation, axiom, sorry.
-/
import Derived.Test.YtlmekceabmannaaDoorChecked
import GoSem.PinnedTables
import GoSem.Claim
import GoSem.ClaimJoined
import GoSem.ClaimMapViews
import Derived.JoinedTies
import Derived.KernelRfl
namespace Go.Proofs.YtlmekceabmannaaDoor
/- THE CELL 'sum', in the pinned program and in every row, IS THE sha256 OF THE DUMP (.gsa) THAT YtlmekceabmannaaDoorProg.lean LOADS. Nothing in Lean hashes anything: it is a label: what it is worth is what the hold of that sum in a sandbox is worth. -/
noncomputable def Tryd.pinned : Pinned := { name := "ytlmekceabmannaadoor", sum := "fb2285bfca79c6b8424f72408fad6acc0b0f9678f29cbe2e5eec1be259207ecc", checked := Tryd.checked }
namespace Rows
def none {H : Type} : Left H := { results := [], args := [] }

/- WHAT THE LISTED PACKAGE-LEVEL VARIABLES READ AS WHEN THE CALL BEGINS. Each datum BY PROGRAM (the guide's laid-datum.mjs) off the statement by which the dump's own 'gosem.cut.vars' lays the variable. In a bare row this is a premise. The card (YtlmekceabmannaaDoorCards.lean) ties it to the program's text. -/
def laid_unicode_White_Space {H : Type} : DataW H := .ptr (.agg [.slice [.agg [.lit (.int .u16 9), .lit (.int .u16 13), .lit (.int .u16 1)], .agg [.lit (.int .u16 32), .lit (.int .u16 133), .lit (.int .u16 101)], .agg [.lit (.int .u16 160), .lit (.int .u16 5760), .lit (.int .u16 5600)], .agg [.lit (.int .u16 8192), .lit (.int .u16 8202), .lit (.int .u16 1)], .agg [.lit (.int .u16 8232), .lit (.int .u16 8233), .lit (.int .u16 1)], .agg [.lit (.int .u16 8239), .lit (.int .u16 8287), .lit (.int .u16 48)], .agg [.lit (.int .u16 12288), .lit (.int .u16 12288), .lit (.int .u16 1)]] [], .nil, .lit (.int .i64 2)])
def laid_strings_asciiSpace {H : Type} : DataW H := .agg [.lit (.int .u8 0), .lit (.int .u8 0), .lit (.int .u8 0), .lit (.int .u8 0), .lit (.int .u8 0), .lit (.int .u8 0), .lit (.int .u8 0), .lit (.int .u8 0), .lit (.int .u8 0), .lit (.int .u8 1), .lit (.int .u8 1), .lit (.int .u8 1), .lit (.int .u8 1), .lit (.int .u8 1), .lit (.int .u8 0), .lit (.int .u8 0), .lit (.int .u8 0), .lit (.int .u8 0), .lit (.int .u8 0), .lit (.int .u8 0), .lit (.int .u8 0), .lit (.int .u8 0), .lit (.int .u8 0), .lit (.int .u8 0), .lit (.int .u8 0), .lit (.int .u8 0), .lit (.int .u8 0), .lit (.int .u8 0), .lit (.int .u8 0), .lit (.int .u8 0), .lit (.int .u8 0), .lit (.int .u8 0), .lit (.int .u8 1), .lit (.int .u8 0), .lit (.int .u8 0), .lit (.int .u8 0), .lit (.int .u8 0), .lit (.int .u8 0), .lit (.int .u8 0), .lit (.int .u8 0), .lit (.int .u8 0), .lit (.int .u8 0), .lit (.int .u8 0), .lit (.int .u8 0), .lit (.int .u8 0), .lit (.int .u8 0), .lit (.int .u8 0), .lit (.int .u8 0), .lit (.int .u8 0), .lit (.int .u8 0), .lit (.int .u8 0), .lit (.int .u8 0), .lit (.int .u8 0), .lit (.int .u8 0), .lit (.int .u8 0), .lit (.int .u8 0), .lit (.int .u8 0), .lit (.int .u8 0), .lit (.int .u8 0), .lit (.int .u8 0), .lit (.int .u8 0), .lit (.int .u8 0), .lit (.int .u8 0), .lit (.int .u8 0), .lit (.int .u8 0), .lit (.int .u8 0), .lit (.int .u8 0), .lit (.int .u8 0), .lit (.int .u8 0), .lit (.int .u8 0), .lit (.int .u8 0), .lit (.int .u8 0), .lit (.int .u8 0), .lit (.int .u8 0), .lit (.int .u8 0), .lit (.int .u8 0), .lit (.int .u8 0), .lit (.int .u8 0), .lit (.int .u8 0), .lit (.int .u8 0), .lit (.int .u8 0), .lit (.int .u8 0), .lit (.int .u8 0), .lit (.int .u8 0), .lit (.int .u8 0), .lit (.int .u8 0), .lit (.int .u8 0), .lit (.int .u8 0), .lit (.int .u8 0), .lit (.int .u8 0), .lit (.int .u8 0), .lit (.int .u8 0), .lit (.int .u8 0), .lit (.int .u8 0), .lit (.int .u8 0), .lit (.int .u8 0), .lit (.int .u8 0), .lit (.int .u8 0), .lit (.int .u8 0), .lit (.int .u8 0), .lit (.int .u8 0), .lit (.int .u8 0), .lit (.int .u8 0), .lit (.int .u8 0), .lit (.int .u8 0), .lit (.int .u8 0), .lit (.int .u8 0), .lit (.int .u8 0), .lit (.int .u8 0), .lit (.int .u8 0), .lit (.int .u8 0), .lit (.int .u8 0), .lit (.int .u8 0), .lit (.int .u8 0), .lit (.int .u8 0), .lit (.int .u8 0), .lit (.int .u8 0), .lit (.int .u8 0), .lit (.int .u8 0), .lit (.int .u8 0), .lit (.int .u8 0), .lit (.int .u8 0), .lit (.int .u8 0), .lit (.int .u8 0), .lit (.int .u8 0), .lit (.int .u8 0), .lit (.int .u8 0), .lit (.int .u8 0), .lit (.int .u8 0), .lit (.int .u8 0), .lit (.int .u8 0), .lit (.int .u8 0), .lit (.int .u8 0), .lit (.int .u8 0), .lit (.int .u8 0), .lit (.int .u8 0), .lit (.int .u8 0), .lit (.int .u8 0), .lit (.int .u8 0), .lit (.int .u8 0), .lit (.int .u8 0), .lit (.int .u8 0), .lit (.int .u8 0), .lit (.int .u8 0), .lit (.int .u8 0), .lit (.int .u8 0), .lit (.int .u8 0), .lit (.int .u8 0), .lit (.int .u8 0), .lit (.int .u8 0), .lit (.int .u8 0), .lit (.int .u8 0), .lit (.int .u8 0), .lit (.int .u8 0), .lit (.int .u8 0), .lit (.int .u8 0), .lit (.int .u8 0), .lit (.int .u8 0), .lit (.int .u8 0), .lit (.int .u8 0), .lit (.int .u8 0), .lit (.int .u8 0), .lit (.int .u8 0), .lit (.int .u8 0), .lit (.int .u8 0), .lit (.int .u8 0), .lit (.int .u8 0), .lit (.int .u8 0), .lit (.int .u8 0), .lit (.int .u8 0), .lit (.int .u8 0), .lit (.int .u8 0), .lit (.int .u8 0), .lit (.int .u8 0), .lit (.int .u8 0), .lit (.int .u8 0), .lit (.int .u8 0), .lit (.int .u8 0), .lit (.int .u8 0), .lit (.int .u8 0), .lit (.int .u8 0), .lit (.int .u8 0), .lit (.int .u8 0), .lit (.int .u8 0), .lit (.int .u8 0), .lit (.int .u8 0), .lit (.int .u8 0), .lit (.int .u8 0), .lit (.int .u8 0), .lit (.int .u8 0), .lit (.int .u8 0), .lit (.int .u8 0), .lit (.int .u8 0), .lit (.int .u8 0), .lit (.int .u8 0), .lit (.int .u8 0), .lit (.int .u8 0), .lit (.int .u8 0), .lit (.int .u8 0), .lit (.int .u8 0), .lit (.int .u8 0), .lit (.int .u8 0), .lit (.int .u8 0), .lit (.int .u8 0), .lit (.int .u8 0), .lit (.int .u8 0), .lit (.int .u8 0), .lit (.int .u8 0), .lit (.int .u8 0), .lit (.int .u8 0), .lit (.int .u8 0), .lit (.int .u8 0), .lit (.int .u8 0), .lit (.int .u8 0), .lit (.int .u8 0), .lit (.int .u8 0), .lit (.int .u8 0), .lit (.int .u8 0), .lit (.int .u8 0), .lit (.int .u8 0), .lit (.int .u8 0), .lit (.int .u8 0), .lit (.int .u8 0), .lit (.int .u8 0), .lit (.int .u8 0), .lit (.int .u8 0), .lit (.int .u8 0), .lit (.int .u8 0), .lit (.int .u8 0), .lit (.int .u8 0), .lit (.int .u8 0), .lit (.int .u8 0), .lit (.int .u8 0), .lit (.int .u8 0), .lit (.int .u8 0), .lit (.int .u8 0), .lit (.int .u8 0), .lit (.int .u8 0), .lit (.int .u8 0), .lit (.int .u8 0), .lit (.int .u8 0), .lit (.int .u8 0), .lit (.int .u8 0), .lit (.int .u8 0), .lit (.int .u8 0), .lit (.int .u8 0), .lit (.int .u8 0), .lit (.int .u8 0), .lit (.int .u8 0), .lit (.int .u8 0), .lit (.int .u8 0), .lit (.int .u8 0), .lit (.int .u8 0), .lit (.int .u8 0), .lit (.int .u8 0), .lit (.int .u8 0)]
def laid_loop_example_g00955_impl_sines {H : Type} : DataW H := .agg [.lit (.int .i64 0), .lit (.int .i64 17452), .lit (.int .i64 34899), .lit (.int .i64 52336), .lit (.int .i64 69756), .lit (.int .i64 87156), .lit (.int .i64 104528), .lit (.int .i64 121869), .lit (.int .i64 139173), .lit (.int .i64 156434), .lit (.int .i64 173648), .lit (.int .i64 190809), .lit (.int .i64 207912), .lit (.int .i64 224951), .lit (.int .i64 241922), .lit (.int .i64 258819), .lit (.int .i64 275637), .lit (.int .i64 292372), .lit (.int .i64 309017), .lit (.int .i64 325568), .lit (.int .i64 342020), .lit (.int .i64 358368), .lit (.int .i64 374607), .lit (.int .i64 390731), .lit (.int .i64 406737), .lit (.int .i64 422618), .lit (.int .i64 438371), .lit (.int .i64 453990), .lit (.int .i64 469472), .lit (.int .i64 484810), .lit (.int .i64 500000), .lit (.int .i64 515038), .lit (.int .i64 529919), .lit (.int .i64 544639), .lit (.int .i64 559193), .lit (.int .i64 573576), .lit (.int .i64 587785), .lit (.int .i64 601815), .lit (.int .i64 615661), .lit (.int .i64 629320), .lit (.int .i64 642788), .lit (.int .i64 656059), .lit (.int .i64 669131), .lit (.int .i64 681998), .lit (.int .i64 694658), .lit (.int .i64 707107), .lit (.int .i64 719340), .lit (.int .i64 731354), .lit (.int .i64 743145), .lit (.int .i64 754710), .lit (.int .i64 766044), .lit (.int .i64 777146), .lit (.int .i64 788011), .lit (.int .i64 798636), .lit (.int .i64 809017), .lit (.int .i64 819152), .lit (.int .i64 829038), .lit (.int .i64 838671), .lit (.int .i64 848048), .lit (.int .i64 857167), .lit (.int .i64 866025), .lit (.int .i64 874620), .lit (.int .i64 882948), .lit (.int .i64 891007), .lit (.int .i64 898794), .lit (.int .i64 906308), .lit (.int .i64 913545), .lit (.int .i64 920505), .lit (.int .i64 927184), .lit (.int .i64 933580), .lit (.int .i64 939693), .lit (.int .i64 945519), .lit (.int .i64 951057), .lit (.int .i64 956305), .lit (.int .i64 961262), .lit (.int .i64 965926), .lit (.int .i64 970296), .lit (.int .i64 974370), .lit (.int .i64 978148), .lit (.int .i64 981627), .lit (.int .i64 984808), .lit (.int .i64 987688), .lit (.int .i64 990268), .lit (.int .i64 992546), .lit (.int .i64 994522), .lit (.int .i64 996195), .lit (.int .i64 997564), .lit (.int .i64 998630), .lit (.int .i64 999391), .lit (.int .i64 999848), .lit (.int .i64 1000000)]
def laid_math_bits_deBruijn32tab {H : Type} : DataW H := .agg [.lit (.int .u8 0), .lit (.int .u8 1), .lit (.int .u8 28), .lit (.int .u8 2), .lit (.int .u8 29), .lit (.int .u8 14), .lit (.int .u8 24), .lit (.int .u8 3), .lit (.int .u8 30), .lit (.int .u8 22), .lit (.int .u8 20), .lit (.int .u8 15), .lit (.int .u8 25), .lit (.int .u8 17), .lit (.int .u8 4), .lit (.int .u8 8), .lit (.int .u8 31), .lit (.int .u8 27), .lit (.int .u8 13), .lit (.int .u8 23), .lit (.int .u8 21), .lit (.int .u8 19), .lit (.int .u8 16), .lit (.int .u8 7), .lit (.int .u8 26), .lit (.int .u8 12), .lit (.int .u8 18), .lit (.int .u8 6), .lit (.int .u8 11), .lit (.int .u8 5), .lit (.int .u8 10), .lit (.int .u8 9)]
def laid_math_bits_deBruijn64tab {H : Type} : DataW H := .agg [.lit (.int .u8 0), .lit (.int .u8 1), .lit (.int .u8 56), .lit (.int .u8 2), .lit (.int .u8 57), .lit (.int .u8 49), .lit (.int .u8 28), .lit (.int .u8 3), .lit (.int .u8 61), .lit (.int .u8 58), .lit (.int .u8 42), .lit (.int .u8 50), .lit (.int .u8 38), .lit (.int .u8 29), .lit (.int .u8 17), .lit (.int .u8 4), .lit (.int .u8 62), .lit (.int .u8 47), .lit (.int .u8 59), .lit (.int .u8 36), .lit (.int .u8 45), .lit (.int .u8 43), .lit (.int .u8 51), .lit (.int .u8 22), .lit (.int .u8 53), .lit (.int .u8 39), .lit (.int .u8 33), .lit (.int .u8 30), .lit (.int .u8 24), .lit (.int .u8 18), .lit (.int .u8 12), .lit (.int .u8 5), .lit (.int .u8 63), .lit (.int .u8 55), .lit (.int .u8 48), .lit (.int .u8 27), .lit (.int .u8 60), .lit (.int .u8 41), .lit (.int .u8 37), .lit (.int .u8 16), .lit (.int .u8 46), .lit (.int .u8 35), .lit (.int .u8 44), .lit (.int .u8 21), .lit (.int .u8 52), .lit (.int .u8 32), .lit (.int .u8 23), .lit (.int .u8 11), .lit (.int .u8 54), .lit (.int .u8 26), .lit (.int .u8 40), .lit (.int .u8 15), .lit (.int .u8 34), .lit (.int .u8 20), .lit (.int .u8 31), .lit (.int .u8 10), .lit (.int .u8 25), .lit (.int .u8 14), .lit (.int .u8 19), .lit (.int .u8 9), .lit (.int .u8 13), .lit (.int .u8 8), .lit (.int .u8 7), .lit (.int .u8 6)]
def laid_internal_strconv_uint64pow10 {H : Type} : DataW H := .agg [.lit (.int .u64 1), .lit (.int .u64 10), .lit (.int .u64 100), .lit (.int .u64 1000), .lit (.int .u64 10000), .lit (.int .u64 100000), .lit (.int .u64 1000000), .lit (.int .u64 10000000), .lit (.int .u64 100000000), .lit (.int .u64 1000000000), .lit (.int .u64 10000000000), .lit (.int .u64 100000000000), .lit (.int .u64 1000000000000), .lit (.int .u64 10000000000000), .lit (.int .u64 100000000000000), .lit (.int .u64 1000000000000000), .lit (.int .u64 10000000000000000), .lit (.int .u64 100000000000000000), .lit (.int .u64 1000000000000000000), .lit (.int .u64 10000000000000000000)]
def laid_unicode_utf8_acceptRanges {H : Type} : DataW H := .agg [.agg [.lit (.int .u8 128), .lit (.int .u8 191)], .agg [.lit (.int .u8 160), .lit (.int .u8 191)], .agg [.lit (.int .u8 128), .lit (.int .u8 159)], .agg [.lit (.int .u8 144), .lit (.int .u8 191)], .agg [.lit (.int .u8 128), .lit (.int .u8 143)], .agg [.lit (.int .u8 0), .lit (.int .u8 0)], .agg [.lit (.int .u8 0), .lit (.int .u8 0)], .agg [.lit (.int .u8 0), .lit (.int .u8 0)], .agg [.lit (.int .u8 0), .lit (.int .u8 0)], .agg [.lit (.int .u8 0), .lit (.int .u8 0)], .agg [.lit (.int .u8 0), .lit (.int .u8 0)], .agg [.lit (.int .u8 0), .lit (.int .u8 0)], .agg [.lit (.int .u8 0), .lit (.int .u8 0)], .agg [.lit (.int .u8 0), .lit (.int .u8 0)], .agg [.lit (.int .u8 0), .lit (.int .u8 0)], .agg [.lit (.int .u8 0), .lit (.int .u8 0)]]
/-- One of Go's own tables, pinned by name: the form's constant. -/
def laid_unicode_utf8_first : DataW Unit := Go.Pinned.utf8First
def laid_strconv_ErrRange {H : Type} : DataW H := .iface "*errors.errorString" (.ptr (.agg [.lit (.string [118, 97, 108, 117, 101, 32, 111, 117, 116, 32, 111, 102, 32, 114, 97, 110, 103, 101])]))
def laid_strconv_ErrSyntax {H : Type} : DataW H := .iface "*errors.errorString" (.ptr (.agg [.lit (.string [105, 110, 118, 97, 108, 105, 100, 32, 115, 121, 110, 116, 97, 120])]))

/-- 'laws.FnExactCommandNames': WHATEVER THE INPUT: true; the input reads as it did. -/
def fnExactCommandNamesSpec : ChangeSpec := { name := "fnExactCommandNames", fn := fun _ => fun
  | [] => { results := [.lit (.bool true)], args := [] }
  | _ => none }
def fnExactCommandNamesRow : OpenClaim := { program := "ytlmekceabmannaadoor", sum := "fb2285bfca79c6b8424f72408fad6acc0b0f9678f29cbe2e5eec1be259207ecc", func := "loop.example/g00955/laws.FnExactCommandNames", spec := "fnExactCommandNames", unfollowed := true, recurses := true, named := ["strings.asciiSpace", "unicode.White_Space"], apart := false, laid := [("unicode.White_Space", laid_unicode_White_Space), ("strings.asciiSpace", laid_strings_asciiSpace)] }
def FnExactCommandNamesSaid : Prop := fnExactCommandNamesRow.holds Tryd.pinned (OpenSpec.ofChange fnExactCommandNamesSpec)

/-- ITS FALSE NEIGHBOUR: 'it returns false'. Refute it at one input. -/
def fnExactCommandNamesWrong : ChangeSpec := { name := "fnExactCommandNames", fn := fun _ => fun
  | [] => { results := [.lit (.bool false)], args := [] }
  | _ => none }
def FnExactCommandNamesWrongFalsely : Prop := fnExactCommandNamesRow.holds Tryd.pinned (OpenSpec.ofChange fnExactCommandNamesWrong)

/-- 'laws.FnExactMeanError': WHATEVER THE INPUT: true; the input reads as it did. -/
def fnExactMeanErrorSpec : ChangeSpec := { name := "fnExactMeanError", vars := ["loop.example/g00955/impl.sines"], fn := fun _ => fun
  | [d, g1] => { results := [.lit (.bool true)], args := [d], vars := [g1] }
  | _ => none }
def fnExactMeanErrorRow : OpenClaim := { program := "ytlmekceabmannaadoor", sum := "fb2285bfca79c6b8424f72408fad6acc0b0f9678f29cbe2e5eec1be259207ecc", func := "loop.example/g00955/laws.FnExactMeanError", spec := "fnExactMeanError", inPlace := ["math.sqrt"], unfollowed := true, recurses := true, named := ["loop.example/g00955/impl.sines"], apart := false, laid := [("loop.example/g00955/impl.sines", laid_loop_example_g00955_impl_sines)] }
def FnExactMeanErrorSaid : Prop := fnExactMeanErrorRow.holds Tryd.pinned (OpenSpec.ofChange fnExactMeanErrorSpec)

/-- ITS FALSE NEIGHBOUR: 'it returns false'. Refute it at one input. -/
def fnExactMeanErrorWrong : ChangeSpec := { name := "fnExactMeanError", vars := ["loop.example/g00955/impl.sines"], fn := fun _ => fun
  | [d, g1] => { results := [.lit (.bool false)], args := [d], vars := [g1] }
  | _ => none }
def FnExactMeanErrorWrongFalsely : Prop := fnExactMeanErrorRow.holds Tryd.pinned (OpenSpec.ofChange fnExactMeanErrorWrong)

/-- 'laws.FnExactWorstMark': WHATEVER THE INPUT: true; the input reads as it did. -/
def fnExactWorstMarkSpec : ChangeSpec := { name := "fnExactWorstMark", vars := ["loop.example/g00955/impl.sines"], fn := fun _ => fun
  | [d, g1] => { results := [.lit (.bool true)], args := [d], vars := [g1] }
  | _ => none }
def fnExactWorstMarkRow : OpenClaim := { program := "ytlmekceabmannaadoor", sum := "fb2285bfca79c6b8424f72408fad6acc0b0f9678f29cbe2e5eec1be259207ecc", func := "loop.example/g00955/laws.FnExactWorstMark", spec := "fnExactWorstMark", inPlace := ["math.sqrt"], unfollowed := true, recurses := true, named := ["loop.example/g00955/impl.sines"], apart := false, laid := [("loop.example/g00955/impl.sines", laid_loop_example_g00955_impl_sines)] }
def FnExactWorstMarkSaid : Prop := fnExactWorstMarkRow.holds Tryd.pinned (OpenSpec.ofChange fnExactWorstMarkSpec)

/-- ITS FALSE NEIGHBOUR: 'it returns false'. Refute it at one input. -/
def fnExactWorstMarkWrong : ChangeSpec := { name := "fnExactWorstMark", vars := ["loop.example/g00955/impl.sines"], fn := fun _ => fun
  | [d, g1] => { results := [.lit (.bool false)], args := [d], vars := [g1] }
  | _ => none }
def FnExactWorstMarkWrongFalsely : Prop := fnExactWorstMarkRow.holds Tryd.pinned (OpenSpec.ofChange fnExactWorstMarkWrong)

/-- 'laws.FnExactSessionOf': WHATEVER THE INPUT: true; the input reads as it did. -/
def fnExactSessionOfSpec : ChangeSpec := { name := "fnExactSessionOf", vars := ["loop.example/g00955/impl.sines"], fn := fun _ => fun
  | [d1, d2, g1] => { results := [.lit (.bool true)], args := [d1, d2], vars := [g1] }
  | _ => none }
def fnExactSessionOfRow : OpenClaim := { program := "ytlmekceabmannaadoor", sum := "fb2285bfca79c6b8424f72408fad6acc0b0f9678f29cbe2e5eec1be259207ecc", func := "loop.example/g00955/laws.FnExactSessionOf", spec := "fnExactSessionOf", inPlace := ["math.sqrt"], unfollowed := true, recurses := true, named := ["loop.example/g00955/impl.sines"], apart := false, laid := [("loop.example/g00955/impl.sines", laid_loop_example_g00955_impl_sines)] }
def FnExactSessionOfSaid : Prop := fnExactSessionOfRow.holds Tryd.pinned (OpenSpec.ofChange fnExactSessionOfSpec)

/-- ITS FALSE NEIGHBOUR: 'it returns false'. Refute it at one input. -/
def fnExactSessionOfWrong : ChangeSpec := { name := "fnExactSessionOf", vars := ["loop.example/g00955/impl.sines"], fn := fun _ => fun
  | [d1, d2, g1] => { results := [.lit (.bool false)], args := [d1, d2], vars := [g1] }
  | _ => none }
def FnExactSessionOfWrongFalsely : Prop := fnExactSessionOfRow.holds Tryd.pinned (OpenSpec.ofChange fnExactSessionOfWrong)

/-- 'laws.FnExactSaveBlocks': WHATEVER THE INPUT: true; the input reads as it did. -/
def fnExactSaveBlocksSpec : ChangeSpec := { name := "fnExactSaveBlocks", fn := fun _ => fun
  | [d] => { results := [.lit (.bool true)], args := [d] }
  | _ => none }
def fnExactSaveBlocksRow : OpenClaim := { program := "ytlmekceabmannaadoor", sum := "fb2285bfca79c6b8424f72408fad6acc0b0f9678f29cbe2e5eec1be259207ecc", func := "loop.example/g00955/laws.FnExactSaveBlocks", spec := "fnExactSaveBlocks", inPlace := ["internal/bytealg.IndexByteString", "internal/bytealg.IndexString", "internal/bytealg.abigen_runtime_cmpstring", "internal/abi.NoEscape"], named := ["internal/bytealg.MaxLen", "internal/strconv.uint64pow10", "math/bits.deBruijn32tab", "math/bits.deBruijn64tab"], apart := false, laid := [("math/bits.deBruijn32tab", laid_math_bits_deBruijn32tab), ("math/bits.deBruijn64tab", laid_math_bits_deBruijn64tab), ("internal/strconv.uint64pow10", laid_internal_strconv_uint64pow10)] }
def FnExactSaveBlocksSaid : Prop := fnExactSaveBlocksRow.holds Tryd.pinned (OpenSpec.ofChange fnExactSaveBlocksSpec)

/-- ITS FALSE NEIGHBOUR: 'it returns false'. Refute it at one input. -/
def fnExactSaveBlocksWrong : ChangeSpec := { name := "fnExactSaveBlocks", fn := fun _ => fun
  | [d] => { results := [.lit (.bool false)], args := [d] }
  | _ => none }
def FnExactSaveBlocksWrongFalsely : Prop := fnExactSaveBlocksRow.holds Tryd.pinned (OpenSpec.ofChange fnExactSaveBlocksWrong)

/-- 'laws.FnExactDamagedLines': WHATEVER THE INPUT: true; the input reads as it did. -/
def fnExactDamagedLinesSpec : ChangeSpec := { name := "fnExactDamagedLines", fn := fun _ => fun
  | [d] => { results := [.lit (.bool true)], args := [d] }
  | _ => none }
def fnExactDamagedLinesRow : OpenClaim := { program := "ytlmekceabmannaadoor", sum := "fb2285bfca79c6b8424f72408fad6acc0b0f9678f29cbe2e5eec1be259207ecc", func := "loop.example/g00955/laws.FnExactDamagedLines", spec := "fnExactDamagedLines", inPlace := ["internal/bytealg.CountString", "internal/bytealg.IndexByteString", "internal/bytealg.IndexString"], named := ["unicode/utf8.first", "unicode/utf8.acceptRanges", "internal/bytealg.MaxLen", "internal/strconv.uint64pow10", "math/bits.deBruijn32tab", "math/bits.deBruijn64tab"], apart := false, laid := [("math/bits.deBruijn32tab", laid_math_bits_deBruijn32tab), ("math/bits.deBruijn64tab", laid_math_bits_deBruijn64tab), ("internal/strconv.uint64pow10", laid_internal_strconv_uint64pow10), ("unicode/utf8.acceptRanges", laid_unicode_utf8_acceptRanges), ("unicode/utf8.first", laid_unicode_utf8_first)] }
def FnExactDamagedLinesSaid : Prop := fnExactDamagedLinesRow.holds Tryd.pinned (OpenSpec.ofChange fnExactDamagedLinesSpec)

/-- ITS FALSE NEIGHBOUR: 'it returns false'. Refute it at one input. -/
def fnExactDamagedLinesWrong : ChangeSpec := { name := "fnExactDamagedLines", fn := fun _ => fun
  | [d] => { results := [.lit (.bool false)], args := [d] }
  | _ => none }
def FnExactDamagedLinesWrongFalsely : Prop := fnExactDamagedLinesRow.holds Tryd.pinned (OpenSpec.ofChange fnExactDamagedLinesWrong)

/-- 'laws.FnExactReadSession': WHATEVER THE INPUT: true; the input reads as it did. -/
def fnExactReadSessionSpec : ChangeSpec := { name := "fnExactReadSession", fn := fun _ => fun
  | [d] => { results := [.lit (.bool true)], args := [d] }
  | _ => none }
def fnExactReadSessionRow : OpenClaim := { program := "ytlmekceabmannaadoor", sum := "fb2285bfca79c6b8424f72408fad6acc0b0f9678f29cbe2e5eec1be259207ecc", func := "loop.example/g00955/laws.FnExactReadSession", spec := "fnExactReadSession", inPlace := ["internal/bytealg.CountString", "internal/bytealg.IndexByteString", "internal/bytealg.IndexString"], named := ["unicode/utf8.first", "unicode/utf8.acceptRanges", "internal/bytealg.MaxLen", "strconv.ErrSyntax", "strconv.ErrRange", "internal/strconv.uint64pow10", "math/bits.deBruijn32tab", "math/bits.deBruijn64tab"], apart := false, laid := [("math/bits.deBruijn32tab", laid_math_bits_deBruijn32tab), ("math/bits.deBruijn64tab", laid_math_bits_deBruijn64tab), ("internal/strconv.uint64pow10", laid_internal_strconv_uint64pow10), ("unicode/utf8.acceptRanges", laid_unicode_utf8_acceptRanges), ("strconv.ErrRange", laid_strconv_ErrRange), ("strconv.ErrSyntax", laid_strconv_ErrSyntax), ("unicode/utf8.first", laid_unicode_utf8_first)] }
def FnExactReadSessionSaid : Prop := fnExactReadSessionRow.holds Tryd.pinned (OpenSpec.ofChange fnExactReadSessionSpec)

/-- ITS FALSE NEIGHBOUR: 'it returns false'. Refute it at one input. -/
def fnExactReadSessionWrong : ChangeSpec := { name := "fnExactReadSession", fn := fun _ => fun
  | [d] => { results := [.lit (.bool false)], args := [d] }
  | _ => none }
def FnExactReadSessionWrongFalsely : Prop := fnExactReadSessionRow.holds Tryd.pinned (OpenSpec.ofChange fnExactReadSessionWrong)

/-- 'laws.FnExactSalvageBlocks': WHATEVER THE INPUT: true; the input reads as it did. -/
def fnExactSalvageBlocksSpec : ChangeSpec := { name := "fnExactSalvageBlocks", fn := fun _ => fun
  | [d] => { results := [.lit (.bool true)], args := [d] }
  | _ => none }
def fnExactSalvageBlocksRow : OpenClaim := { program := "ytlmekceabmannaadoor", sum := "fb2285bfca79c6b8424f72408fad6acc0b0f9678f29cbe2e5eec1be259207ecc", func := "loop.example/g00955/laws.FnExactSalvageBlocks", spec := "fnExactSalvageBlocks", inPlace := ["internal/bytealg.CountString", "internal/bytealg.IndexByteString", "internal/bytealg.IndexString", "internal/bytealg.abigen_runtime_cmpstring", "slices.overlaps[loop.example/g00955/impl.Block]"], unfollowed := true, recurses := true, named := ["unicode/utf8.first", "unicode/utf8.acceptRanges", "internal/bytealg.MaxLen", "internal/strconv.uint64pow10", "math/bits.deBruijn32tab", "math/bits.deBruijn64tab"], apart := false, laid := [("math/bits.deBruijn32tab", laid_math_bits_deBruijn32tab), ("math/bits.deBruijn64tab", laid_math_bits_deBruijn64tab), ("internal/strconv.uint64pow10", laid_internal_strconv_uint64pow10), ("unicode/utf8.acceptRanges", laid_unicode_utf8_acceptRanges), ("unicode/utf8.first", laid_unicode_utf8_first)] }
def FnExactSalvageBlocksSaid : Prop := fnExactSalvageBlocksRow.holds Tryd.pinned (OpenSpec.ofChange fnExactSalvageBlocksSpec)

/-- ITS FALSE NEIGHBOUR: 'it returns false'. Refute it at one input. -/
def fnExactSalvageBlocksWrong : ChangeSpec := { name := "fnExactSalvageBlocks", fn := fun _ => fun
  | [d] => { results := [.lit (.bool false)], args := [d] }
  | _ => none }
def FnExactSalvageBlocksWrongFalsely : Prop := fnExactSalvageBlocksRow.holds Tryd.pinned (OpenSpec.ofChange fnExactSalvageBlocksWrong)

/-- 'laws.FnSalvage': WHATEVER THE INPUT: true; the input reads as it did. -/
def fnSalvageSpec : ChangeSpec := { name := "fnSalvage", fn := fun _ => fun
  | [d1, d2] => { results := [.lit (.bool true)], args := [d1, d2] }
  | _ => none }
def fnSalvageRow : OpenClaim := { program := "ytlmekceabmannaadoor", sum := "fb2285bfca79c6b8424f72408fad6acc0b0f9678f29cbe2e5eec1be259207ecc", func := "loop.example/g00955/laws.FnSalvage", spec := "fnSalvage", inPlace := ["internal/bytealg.CountString", "internal/bytealg.IndexByteString", "internal/bytealg.IndexString", "internal/bytealg.abigen_runtime_cmpstring", "slices.overlaps[loop.example/g00955/impl.Block]"], unfollowed := true, recurses := true, named := ["unicode/utf8.first", "unicode/utf8.acceptRanges", "internal/bytealg.MaxLen", "internal/strconv.uint64pow10", "math/bits.deBruijn32tab", "math/bits.deBruijn64tab"], apart := false, laid := [("math/bits.deBruijn32tab", laid_math_bits_deBruijn32tab), ("math/bits.deBruijn64tab", laid_math_bits_deBruijn64tab), ("internal/strconv.uint64pow10", laid_internal_strconv_uint64pow10), ("unicode/utf8.acceptRanges", laid_unicode_utf8_acceptRanges), ("unicode/utf8.first", laid_unicode_utf8_first)] }
def FnSalvageSaid : Prop := fnSalvageRow.holds Tryd.pinned (OpenSpec.ofChange fnSalvageSpec)

/-- ITS FALSE NEIGHBOUR: 'it returns false'. Refute it at one input. -/
def fnSalvageWrong : ChangeSpec := { name := "fnSalvage", fn := fun _ => fun
  | [d1, d2] => { results := [.lit (.bool false)], args := [d1, d2] }
  | _ => none }
def FnSalvageWrongFalsely : Prop := fnSalvageRow.holds Tryd.pinned (OpenSpec.ofChange fnSalvageWrong)

/-- 'laws.FnExactLoadBlocks': WHATEVER THE INPUT: true; the input reads as it did. -/
def fnExactLoadBlocksSpec : ChangeSpec := { name := "fnExactLoadBlocks", fn := fun _ => fun
  | [d] => { results := [.lit (.bool true)], args := [d] }
  | _ => none }
def fnExactLoadBlocksRow : OpenClaim := { program := "ytlmekceabmannaadoor", sum := "fb2285bfca79c6b8424f72408fad6acc0b0f9678f29cbe2e5eec1be259207ecc", func := "loop.example/g00955/laws.FnExactLoadBlocks", spec := "fnExactLoadBlocks", inPlace := ["internal/bytealg.CountString", "internal/bytealg.IndexByteString", "internal/bytealg.IndexString", "internal/bytealg.abigen_runtime_cmpstring"], named := ["unicode/utf8.first", "unicode/utf8.acceptRanges", "internal/bytealg.MaxLen", "strconv.ErrSyntax", "strconv.ErrRange", "internal/strconv.uint64pow10", "math/bits.deBruijn32tab", "math/bits.deBruijn64tab"], apart := false, laid := [("math/bits.deBruijn32tab", laid_math_bits_deBruijn32tab), ("math/bits.deBruijn64tab", laid_math_bits_deBruijn64tab), ("internal/strconv.uint64pow10", laid_internal_strconv_uint64pow10), ("unicode/utf8.acceptRanges", laid_unicode_utf8_acceptRanges), ("strconv.ErrRange", laid_strconv_ErrRange), ("strconv.ErrSyntax", laid_strconv_ErrSyntax), ("unicode/utf8.first", laid_unicode_utf8_first)] }
def FnExactLoadBlocksSaid : Prop := fnExactLoadBlocksRow.holds Tryd.pinned (OpenSpec.ofChange fnExactLoadBlocksSpec)

/-- ITS FALSE NEIGHBOUR: 'it returns false'. Refute it at one input. -/
def fnExactLoadBlocksWrong : ChangeSpec := { name := "fnExactLoadBlocks", fn := fun _ => fun
  | [d] => { results := [.lit (.bool false)], args := [d] }
  | _ => none }
def FnExactLoadBlocksWrongFalsely : Prop := fnExactLoadBlocksRow.holds Tryd.pinned (OpenSpec.ofChange fnExactLoadBlocksWrong)

/-- 'laws.FnExactStarsOfBlocks': WHATEVER THE INPUT: true; the input reads as it did. -/
def fnExactStarsOfBlocksSpec : ChangeSpec := { name := "fnExactStarsOfBlocks", fn := fun _ => fun
  | [d] => { results := [.lit (.bool true)], args := [d] }
  | _ => none }
def fnExactStarsOfBlocksRow : OpenClaim := { program := "ytlmekceabmannaadoor", sum := "fb2285bfca79c6b8424f72408fad6acc0b0f9678f29cbe2e5eec1be259207ecc", func := "loop.example/g00955/laws.FnExactStarsOfBlocks", spec := "fnExactStarsOfBlocks", inPlace := ["internal/bytealg.IndexByteString", "internal/bytealg.IndexString", "internal/bytealg.abigen_runtime_cmpstring", "internal/bytealg.CountString"], named := ["internal/bytealg.MaxLen", "unicode/utf8.first", "unicode/utf8.acceptRanges", "strconv.ErrSyntax", "strconv.ErrRange", "internal/strconv.uint64pow10", "math/bits.deBruijn32tab", "math/bits.deBruijn64tab"], apart := false, laid := [("math/bits.deBruijn32tab", laid_math_bits_deBruijn32tab), ("math/bits.deBruijn64tab", laid_math_bits_deBruijn64tab), ("internal/strconv.uint64pow10", laid_internal_strconv_uint64pow10), ("unicode/utf8.acceptRanges", laid_unicode_utf8_acceptRanges), ("strconv.ErrRange", laid_strconv_ErrRange), ("strconv.ErrSyntax", laid_strconv_ErrSyntax), ("unicode/utf8.first", laid_unicode_utf8_first)] }
def FnExactStarsOfBlocksSaid : Prop := fnExactStarsOfBlocksRow.holds Tryd.pinned (OpenSpec.ofChange fnExactStarsOfBlocksSpec)

/-- ITS FALSE NEIGHBOUR: 'it returns false'. Refute it at one input. -/
def fnExactStarsOfBlocksWrong : ChangeSpec := { name := "fnExactStarsOfBlocks", fn := fun _ => fun
  | [d] => { results := [.lit (.bool false)], args := [d] }
  | _ => none }
def FnExactStarsOfBlocksWrongFalsely : Prop := fnExactStarsOfBlocksRow.holds Tryd.pinned (OpenSpec.ofChange fnExactStarsOfBlocksWrong)

/- THE SECOND FORM. 'bulk': how many values and letters a reading holds, each counted each time it is reached (what is shared counts as often as it is met; a slice's spare places count too). A statement '..UptoSaid' is the law's where the arguments, and the package variables that the reading takes, are together of bulk at most 1048576: NARROWER than '..Said'. Prove '..Said' where nothing that the law and all that it calls make is longer than what came in: it says more and counts as full. Else prove '..UptoSaid'. A law counts once. -/
mutual
def uptoBulk {H : Type} : DataW H → Nat
  | .lit (.string bytes) => bytes.length + 1
  | .lit _ => 1
  | .nil => 1
  | .ptr d => uptoBulk d + 1
  | .slice elems spare => uptoBulkAll elems + uptoBulkAll spare + 1
  | .agg parts => uptoBulkAll parts + 1
  | .iface _ d => uptoBulk d + 1
  | .map entries => uptoBulkEntries entries + 1
  | .held _ => 1
def uptoBulkAll {H : Type} : List (DataW H) → Nat
  | [] => 0
  | d :: r => uptoBulk d + uptoBulkAll r
def uptoBulkEntries {H : Type} : List (Lit × DataW H) → Nat
  | [] => 0
  | x :: r => uptoBulkEntry x + uptoBulkEntries r
def uptoBulkEntry {H : Type} : Lit × DataW H → Nat
  | (.string bytes, d) => bytes.length + uptoBulk d + 1
  | (_, d) => uptoBulk d + 1
 end
def uptoSmall : (H : Type) → List (DataW H) → Bool := fun _ ds => decide (uptoBulkAll ds ≤ 1048576)
def OpenSpec.upto (s : _root_.Go.ChangeSpec) : _root_.Go.OpenSpec := { _root_.Go.OpenSpec.ofChange s with cond := some uptoSmall }

/-- 'laws.FnExactCommandNames', WHERE WHAT IT READS IS OF BULK AT MOST 1048576: true; the input reads as it did. -/
def fnExactCommandNamesUptoRow : OpenClaim := { program := "ytlmekceabmannaadoor", sum := "fb2285bfca79c6b8424f72408fad6acc0b0f9678f29cbe2e5eec1be259207ecc", func := "loop.example/g00955/laws.FnExactCommandNames", spec := "fnExactCommandNames", unfollowed := true, recurses := true, named := ["strings.asciiSpace", "unicode.White_Space"], apart := false, laid := [("unicode.White_Space", laid_unicode_White_Space), ("strings.asciiSpace", laid_strings_asciiSpace)], narrowed := true }
def FnExactCommandNamesUptoSaid : Prop := fnExactCommandNamesUptoRow.holds Tryd.pinned (OpenSpec.upto fnExactCommandNamesSpec)

/-- 'laws.FnExactMeanError', WHERE WHAT IT READS IS OF BULK AT MOST 1048576: true; the input reads as it did. -/
def fnExactMeanErrorUptoRow : OpenClaim := { program := "ytlmekceabmannaadoor", sum := "fb2285bfca79c6b8424f72408fad6acc0b0f9678f29cbe2e5eec1be259207ecc", func := "loop.example/g00955/laws.FnExactMeanError", spec := "fnExactMeanError", inPlace := ["math.sqrt"], unfollowed := true, recurses := true, named := ["loop.example/g00955/impl.sines"], apart := false, laid := [("loop.example/g00955/impl.sines", laid_loop_example_g00955_impl_sines)], narrowed := true }
def FnExactMeanErrorUptoSaid : Prop := fnExactMeanErrorUptoRow.holds Tryd.pinned (OpenSpec.upto fnExactMeanErrorSpec)

/-- 'laws.FnExactWorstMark', WHERE WHAT IT READS IS OF BULK AT MOST 1048576: true; the input reads as it did. -/
def fnExactWorstMarkUptoRow : OpenClaim := { program := "ytlmekceabmannaadoor", sum := "fb2285bfca79c6b8424f72408fad6acc0b0f9678f29cbe2e5eec1be259207ecc", func := "loop.example/g00955/laws.FnExactWorstMark", spec := "fnExactWorstMark", inPlace := ["math.sqrt"], unfollowed := true, recurses := true, named := ["loop.example/g00955/impl.sines"], apart := false, laid := [("loop.example/g00955/impl.sines", laid_loop_example_g00955_impl_sines)], narrowed := true }
def FnExactWorstMarkUptoSaid : Prop := fnExactWorstMarkUptoRow.holds Tryd.pinned (OpenSpec.upto fnExactWorstMarkSpec)

/-- 'laws.FnExactSessionOf', WHERE WHAT IT READS IS OF BULK AT MOST 1048576: true; the input reads as it did. -/
def fnExactSessionOfUptoRow : OpenClaim := { program := "ytlmekceabmannaadoor", sum := "fb2285bfca79c6b8424f72408fad6acc0b0f9678f29cbe2e5eec1be259207ecc", func := "loop.example/g00955/laws.FnExactSessionOf", spec := "fnExactSessionOf", inPlace := ["math.sqrt"], unfollowed := true, recurses := true, named := ["loop.example/g00955/impl.sines"], apart := false, laid := [("loop.example/g00955/impl.sines", laid_loop_example_g00955_impl_sines)], narrowed := true }
def FnExactSessionOfUptoSaid : Prop := fnExactSessionOfUptoRow.holds Tryd.pinned (OpenSpec.upto fnExactSessionOfSpec)

/-- 'laws.FnExactSaveBlocks', WHERE WHAT IT READS IS OF BULK AT MOST 1048576: true; the input reads as it did. -/
def fnExactSaveBlocksUptoRow : OpenClaim := { program := "ytlmekceabmannaadoor", sum := "fb2285bfca79c6b8424f72408fad6acc0b0f9678f29cbe2e5eec1be259207ecc", func := "loop.example/g00955/laws.FnExactSaveBlocks", spec := "fnExactSaveBlocks", inPlace := ["internal/bytealg.IndexByteString", "internal/bytealg.IndexString", "internal/bytealg.abigen_runtime_cmpstring", "internal/abi.NoEscape"], named := ["internal/bytealg.MaxLen", "internal/strconv.uint64pow10", "math/bits.deBruijn32tab", "math/bits.deBruijn64tab"], apart := false, laid := [("math/bits.deBruijn32tab", laid_math_bits_deBruijn32tab), ("math/bits.deBruijn64tab", laid_math_bits_deBruijn64tab), ("internal/strconv.uint64pow10", laid_internal_strconv_uint64pow10)], narrowed := true }
def FnExactSaveBlocksUptoSaid : Prop := fnExactSaveBlocksUptoRow.holds Tryd.pinned (OpenSpec.upto fnExactSaveBlocksSpec)

/-- 'laws.FnExactDamagedLines', WHERE WHAT IT READS IS OF BULK AT MOST 1048576: true; the input reads as it did. -/
def fnExactDamagedLinesUptoRow : OpenClaim := { program := "ytlmekceabmannaadoor", sum := "fb2285bfca79c6b8424f72408fad6acc0b0f9678f29cbe2e5eec1be259207ecc", func := "loop.example/g00955/laws.FnExactDamagedLines", spec := "fnExactDamagedLines", inPlace := ["internal/bytealg.CountString", "internal/bytealg.IndexByteString", "internal/bytealg.IndexString"], named := ["unicode/utf8.first", "unicode/utf8.acceptRanges", "internal/bytealg.MaxLen", "internal/strconv.uint64pow10", "math/bits.deBruijn32tab", "math/bits.deBruijn64tab"], apart := false, laid := [("math/bits.deBruijn32tab", laid_math_bits_deBruijn32tab), ("math/bits.deBruijn64tab", laid_math_bits_deBruijn64tab), ("internal/strconv.uint64pow10", laid_internal_strconv_uint64pow10), ("unicode/utf8.acceptRanges", laid_unicode_utf8_acceptRanges), ("unicode/utf8.first", laid_unicode_utf8_first)], narrowed := true }
def FnExactDamagedLinesUptoSaid : Prop := fnExactDamagedLinesUptoRow.holds Tryd.pinned (OpenSpec.upto fnExactDamagedLinesSpec)

/-- 'laws.FnExactReadSession', WHERE WHAT IT READS IS OF BULK AT MOST 1048576: true; the input reads as it did. -/
def fnExactReadSessionUptoRow : OpenClaim := { program := "ytlmekceabmannaadoor", sum := "fb2285bfca79c6b8424f72408fad6acc0b0f9678f29cbe2e5eec1be259207ecc", func := "loop.example/g00955/laws.FnExactReadSession", spec := "fnExactReadSession", inPlace := ["internal/bytealg.CountString", "internal/bytealg.IndexByteString", "internal/bytealg.IndexString"], named := ["unicode/utf8.first", "unicode/utf8.acceptRanges", "internal/bytealg.MaxLen", "strconv.ErrSyntax", "strconv.ErrRange", "internal/strconv.uint64pow10", "math/bits.deBruijn32tab", "math/bits.deBruijn64tab"], apart := false, laid := [("math/bits.deBruijn32tab", laid_math_bits_deBruijn32tab), ("math/bits.deBruijn64tab", laid_math_bits_deBruijn64tab), ("internal/strconv.uint64pow10", laid_internal_strconv_uint64pow10), ("unicode/utf8.acceptRanges", laid_unicode_utf8_acceptRanges), ("strconv.ErrRange", laid_strconv_ErrRange), ("strconv.ErrSyntax", laid_strconv_ErrSyntax), ("unicode/utf8.first", laid_unicode_utf8_first)], narrowed := true }
def FnExactReadSessionUptoSaid : Prop := fnExactReadSessionUptoRow.holds Tryd.pinned (OpenSpec.upto fnExactReadSessionSpec)

/-- 'laws.FnExactSalvageBlocks', WHERE WHAT IT READS IS OF BULK AT MOST 1048576: true; the input reads as it did. -/
def fnExactSalvageBlocksUptoRow : OpenClaim := { program := "ytlmekceabmannaadoor", sum := "fb2285bfca79c6b8424f72408fad6acc0b0f9678f29cbe2e5eec1be259207ecc", func := "loop.example/g00955/laws.FnExactSalvageBlocks", spec := "fnExactSalvageBlocks", inPlace := ["internal/bytealg.CountString", "internal/bytealg.IndexByteString", "internal/bytealg.IndexString", "internal/bytealg.abigen_runtime_cmpstring", "slices.overlaps[loop.example/g00955/impl.Block]"], unfollowed := true, recurses := true, named := ["unicode/utf8.first", "unicode/utf8.acceptRanges", "internal/bytealg.MaxLen", "internal/strconv.uint64pow10", "math/bits.deBruijn32tab", "math/bits.deBruijn64tab"], apart := false, laid := [("math/bits.deBruijn32tab", laid_math_bits_deBruijn32tab), ("math/bits.deBruijn64tab", laid_math_bits_deBruijn64tab), ("internal/strconv.uint64pow10", laid_internal_strconv_uint64pow10), ("unicode/utf8.acceptRanges", laid_unicode_utf8_acceptRanges), ("unicode/utf8.first", laid_unicode_utf8_first)], narrowed := true }
def FnExactSalvageBlocksUptoSaid : Prop := fnExactSalvageBlocksUptoRow.holds Tryd.pinned (OpenSpec.upto fnExactSalvageBlocksSpec)

/-- 'laws.FnSalvage', WHERE WHAT IT READS IS OF BULK AT MOST 1048576: true; the input reads as it did. -/
def fnSalvageUptoRow : OpenClaim := { program := "ytlmekceabmannaadoor", sum := "fb2285bfca79c6b8424f72408fad6acc0b0f9678f29cbe2e5eec1be259207ecc", func := "loop.example/g00955/laws.FnSalvage", spec := "fnSalvage", inPlace := ["internal/bytealg.CountString", "internal/bytealg.IndexByteString", "internal/bytealg.IndexString", "internal/bytealg.abigen_runtime_cmpstring", "slices.overlaps[loop.example/g00955/impl.Block]"], unfollowed := true, recurses := true, named := ["unicode/utf8.first", "unicode/utf8.acceptRanges", "internal/bytealg.MaxLen", "internal/strconv.uint64pow10", "math/bits.deBruijn32tab", "math/bits.deBruijn64tab"], apart := false, laid := [("math/bits.deBruijn32tab", laid_math_bits_deBruijn32tab), ("math/bits.deBruijn64tab", laid_math_bits_deBruijn64tab), ("internal/strconv.uint64pow10", laid_internal_strconv_uint64pow10), ("unicode/utf8.acceptRanges", laid_unicode_utf8_acceptRanges), ("unicode/utf8.first", laid_unicode_utf8_first)], narrowed := true }
def FnSalvageUptoSaid : Prop := fnSalvageUptoRow.holds Tryd.pinned (OpenSpec.upto fnSalvageSpec)

/-- 'laws.FnExactLoadBlocks', WHERE WHAT IT READS IS OF BULK AT MOST 1048576: true; the input reads as it did. -/
def fnExactLoadBlocksUptoRow : OpenClaim := { program := "ytlmekceabmannaadoor", sum := "fb2285bfca79c6b8424f72408fad6acc0b0f9678f29cbe2e5eec1be259207ecc", func := "loop.example/g00955/laws.FnExactLoadBlocks", spec := "fnExactLoadBlocks", inPlace := ["internal/bytealg.CountString", "internal/bytealg.IndexByteString", "internal/bytealg.IndexString", "internal/bytealg.abigen_runtime_cmpstring"], named := ["unicode/utf8.first", "unicode/utf8.acceptRanges", "internal/bytealg.MaxLen", "strconv.ErrSyntax", "strconv.ErrRange", "internal/strconv.uint64pow10", "math/bits.deBruijn32tab", "math/bits.deBruijn64tab"], apart := false, laid := [("math/bits.deBruijn32tab", laid_math_bits_deBruijn32tab), ("math/bits.deBruijn64tab", laid_math_bits_deBruijn64tab), ("internal/strconv.uint64pow10", laid_internal_strconv_uint64pow10), ("unicode/utf8.acceptRanges", laid_unicode_utf8_acceptRanges), ("strconv.ErrRange", laid_strconv_ErrRange), ("strconv.ErrSyntax", laid_strconv_ErrSyntax), ("unicode/utf8.first", laid_unicode_utf8_first)], narrowed := true }
def FnExactLoadBlocksUptoSaid : Prop := fnExactLoadBlocksUptoRow.holds Tryd.pinned (OpenSpec.upto fnExactLoadBlocksSpec)

/-- 'laws.FnExactStarsOfBlocks', WHERE WHAT IT READS IS OF BULK AT MOST 1048576: true; the input reads as it did. -/
def fnExactStarsOfBlocksUptoRow : OpenClaim := { program := "ytlmekceabmannaadoor", sum := "fb2285bfca79c6b8424f72408fad6acc0b0f9678f29cbe2e5eec1be259207ecc", func := "loop.example/g00955/laws.FnExactStarsOfBlocks", spec := "fnExactStarsOfBlocks", inPlace := ["internal/bytealg.IndexByteString", "internal/bytealg.IndexString", "internal/bytealg.abigen_runtime_cmpstring", "internal/bytealg.CountString"], named := ["internal/bytealg.MaxLen", "unicode/utf8.first", "unicode/utf8.acceptRanges", "strconv.ErrSyntax", "strconv.ErrRange", "internal/strconv.uint64pow10", "math/bits.deBruijn32tab", "math/bits.deBruijn64tab"], apart := false, laid := [("math/bits.deBruijn32tab", laid_math_bits_deBruijn32tab), ("math/bits.deBruijn64tab", laid_math_bits_deBruijn64tab), ("internal/strconv.uint64pow10", laid_internal_strconv_uint64pow10), ("unicode/utf8.acceptRanges", laid_unicode_utf8_acceptRanges), ("strconv.ErrRange", laid_strconv_ErrRange), ("strconv.ErrSyntax", laid_strconv_ErrSyntax), ("unicode/utf8.first", laid_unicode_utf8_first)], narrowed := true }
def FnExactStarsOfBlocksUptoSaid : Prop := fnExactStarsOfBlocksUptoRow.holds Tryd.pinned (OpenSpec.upto fnExactStarsOfBlocksSpec)

end Rows
end Go.Proofs.YtlmekceabmannaaDoor
