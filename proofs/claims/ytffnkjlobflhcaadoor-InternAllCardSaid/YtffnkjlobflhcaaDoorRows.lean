/-
  NARROWER THAN 'FOR EVERY INPUT', by the rows' own cells (each row's printed sentence says how): InternStructKeys: laid · InternIds: laid · InternStable: laid · InternAll: laid · InternSlices: laid · InternClones: laid · InternSliceCopies: laid.
  DERIVED. THE GIVEN ROWS OF THIS SEAT. 7 by the template 'for every input the law returns true; each argument reads behind the call as it read before'; 0 by the template 'total and deterministic' (their statements: YtffnkjlobflhcaaDoorTotals.lean).
  GIVEN WITH THE SEED: the statements are not yours to turn. If you find one false, say at which input.
  Laid BY PROGRAM, IN A SANDBOX (cutbox-rows.mjs): the forced cells as the released guide's own fill.sh prints them over the translation 3f7055cf859ebd04… (all of the seat's roots in one cut). By AI agents, Wed Nov 11 2026. No macro, syntax, notation, axiom, sorry.
-/
import Derived.Test.YtffnkjlobflhcaaDoorChecked
import GoSem.Claim
import GoSem.ClaimJoined
import GoSem.ClaimMapViews
import Derived.JoinedTies
import Derived.KernelRfl
namespace Go.Proofs.YtffnkjlobflhcaaDoor
/- THE CELL 'sum', in the pinned program and in every row, IS THE sha256 OF THE DUMP (.gsa) THAT YtffnkjlobflhcaaDoorProg.lean LOADS. Nothing in Lean hashes anything: it is a label: what it is worth is what the hold of that sum in a sandbox is worth. -/
noncomputable def Tryd.pinned : Pinned := { name := "ytffnkjlobflhcaadoor", sum := "3f7055cf859ebd0417e395a884ce01a4ca72d427dcb3701f8f609877b6c3df1f", checked := Tryd.checked }
namespace Rows
def none {H : Type} : Left H := { results := [], args := [] }

/- WHAT THE LISTED PACKAGE-LEVEL VARIABLES READ AS WHEN THE CALL BEGINS. Each datum BY PROGRAM (the guide's laid-datum.mjs) off the statement by which the dump's own 'gosem.cut.vars' lays the variable. In a bare row this is a premise. The card (YtffnkjlobflhcaaDoorCards.lean) ties it to the program's text. -/
def laid_math_bits_deBruijn32tab {H : Type} : DataW H := .agg [.lit (.int .u8 0), .lit (.int .u8 1), .lit (.int .u8 28), .lit (.int .u8 2), .lit (.int .u8 29), .lit (.int .u8 14), .lit (.int .u8 24), .lit (.int .u8 3), .lit (.int .u8 30), .lit (.int .u8 22), .lit (.int .u8 20), .lit (.int .u8 15), .lit (.int .u8 25), .lit (.int .u8 17), .lit (.int .u8 4), .lit (.int .u8 8), .lit (.int .u8 31), .lit (.int .u8 27), .lit (.int .u8 13), .lit (.int .u8 23), .lit (.int .u8 21), .lit (.int .u8 19), .lit (.int .u8 16), .lit (.int .u8 7), .lit (.int .u8 26), .lit (.int .u8 12), .lit (.int .u8 18), .lit (.int .u8 6), .lit (.int .u8 11), .lit (.int .u8 5), .lit (.int .u8 10), .lit (.int .u8 9)]
def laid_math_bits_deBruijn64tab {H : Type} : DataW H := .agg [.lit (.int .u8 0), .lit (.int .u8 1), .lit (.int .u8 56), .lit (.int .u8 2), .lit (.int .u8 57), .lit (.int .u8 49), .lit (.int .u8 28), .lit (.int .u8 3), .lit (.int .u8 61), .lit (.int .u8 58), .lit (.int .u8 42), .lit (.int .u8 50), .lit (.int .u8 38), .lit (.int .u8 29), .lit (.int .u8 17), .lit (.int .u8 4), .lit (.int .u8 62), .lit (.int .u8 47), .lit (.int .u8 59), .lit (.int .u8 36), .lit (.int .u8 45), .lit (.int .u8 43), .lit (.int .u8 51), .lit (.int .u8 22), .lit (.int .u8 53), .lit (.int .u8 39), .lit (.int .u8 33), .lit (.int .u8 30), .lit (.int .u8 24), .lit (.int .u8 18), .lit (.int .u8 12), .lit (.int .u8 5), .lit (.int .u8 63), .lit (.int .u8 55), .lit (.int .u8 48), .lit (.int .u8 27), .lit (.int .u8 60), .lit (.int .u8 41), .lit (.int .u8 37), .lit (.int .u8 16), .lit (.int .u8 46), .lit (.int .u8 35), .lit (.int .u8 44), .lit (.int .u8 21), .lit (.int .u8 52), .lit (.int .u8 32), .lit (.int .u8 23), .lit (.int .u8 11), .lit (.int .u8 54), .lit (.int .u8 26), .lit (.int .u8 40), .lit (.int .u8 15), .lit (.int .u8 34), .lit (.int .u8 20), .lit (.int .u8 31), .lit (.int .u8 10), .lit (.int .u8 25), .lit (.int .u8 14), .lit (.int .u8 19), .lit (.int .u8 9), .lit (.int .u8 13), .lit (.int .u8 8), .lit (.int .u8 7), .lit (.int .u8 6)]
def laid_internal_strconv_uint64pow10 {H : Type} : DataW H := .agg [.lit (.int .u64 1), .lit (.int .u64 10), .lit (.int .u64 100), .lit (.int .u64 1000), .lit (.int .u64 10000), .lit (.int .u64 100000), .lit (.int .u64 1000000), .lit (.int .u64 10000000), .lit (.int .u64 100000000), .lit (.int .u64 1000000000), .lit (.int .u64 10000000000), .lit (.int .u64 100000000000), .lit (.int .u64 1000000000000), .lit (.int .u64 10000000000000), .lit (.int .u64 100000000000000), .lit (.int .u64 1000000000000000), .lit (.int .u64 10000000000000000), .lit (.int .u64 100000000000000000), .lit (.int .u64 1000000000000000000), .lit (.int .u64 10000000000000000000)]

/-- 'palmettelaw04.InternStructKeys': WHATEVER THE INPUT: true; the input reads as it did. -/
def internStructKeysSpec : ChangeSpec := { name := "internStructKeys", fn := fun _ => fun
  | [d] => { results := [.lit (.bool true)], args := [d] }
  | _ => none }
def internStructKeysRow : OpenClaim := { program := "ytffnkjlobflhcaadoor", sum := "3f7055cf859ebd0417e395a884ce01a4ca72d427dcb3701f8f609877b6c3df1f", func := "palmette/palmettelaw04.InternStructKeys", spec := "internStructKeys", named := ["internal/strconv.uint64pow10", "math/bits.deBruijn32tab", "math/bits.deBruijn64tab"], plainKeys := false, apart := false, laid := [("math/bits.deBruijn32tab", laid_math_bits_deBruijn32tab), ("math/bits.deBruijn64tab", laid_math_bits_deBruijn64tab), ("internal/strconv.uint64pow10", laid_internal_strconv_uint64pow10)] }
def InternStructKeysSaid : Prop := internStructKeysRow.holds Tryd.pinned (OpenSpec.ofChange internStructKeysSpec)

/-- ITS FALSE NEIGHBOUR: 'it returns false'. Refute it at one input. -/
def internStructKeysWrong : ChangeSpec := { name := "internStructKeys", fn := fun _ => fun
  | [d] => { results := [.lit (.bool false)], args := [d] }
  | _ => none }
def InternStructKeysWrongFalsely : Prop := internStructKeysRow.holds Tryd.pinned (OpenSpec.ofChange internStructKeysWrong)

/-- 'palmettelaw04.InternIds': WHATEVER THE INPUT: true; the input reads as it did. -/
def internIdsSpec : ChangeSpec := { name := "internIds", fn := fun _ => fun
  | [d1, d2, d3] => { results := [.lit (.bool true)], args := [d1, d2, d3] }
  | _ => none }
def internIdsRow : OpenClaim := { program := "ytffnkjlobflhcaadoor", sum := "3f7055cf859ebd0417e395a884ce01a4ca72d427dcb3701f8f609877b6c3df1f", func := "palmette/palmettelaw04.InternIds", spec := "internIds", named := ["internal/strconv.uint64pow10", "math/bits.deBruijn32tab", "math/bits.deBruijn64tab"], plainKeys := false, apart := false, laid := [("math/bits.deBruijn32tab", laid_math_bits_deBruijn32tab), ("math/bits.deBruijn64tab", laid_math_bits_deBruijn64tab), ("internal/strconv.uint64pow10", laid_internal_strconv_uint64pow10)] }
def InternIdsSaid : Prop := internIdsRow.holds Tryd.pinned (OpenSpec.ofChange internIdsSpec)

/-- ITS FALSE NEIGHBOUR: 'it returns false'. Refute it at one input. -/
def internIdsWrong : ChangeSpec := { name := "internIds", fn := fun _ => fun
  | [d1, d2, d3] => { results := [.lit (.bool false)], args := [d1, d2, d3] }
  | _ => none }
def InternIdsWrongFalsely : Prop := internIdsRow.holds Tryd.pinned (OpenSpec.ofChange internIdsWrong)

/-- 'palmettelaw04.InternStable': WHATEVER THE INPUT: true; the input reads as it did. -/
def internStableSpec : ChangeSpec := { name := "internStable", fn := fun _ => fun
  | [d1, d2] => { results := [.lit (.bool true)], args := [d1, d2] }
  | _ => none }
def internStableRow : OpenClaim := { program := "ytffnkjlobflhcaadoor", sum := "3f7055cf859ebd0417e395a884ce01a4ca72d427dcb3701f8f609877b6c3df1f", func := "palmette/palmettelaw04.InternStable", spec := "internStable", named := ["internal/strconv.uint64pow10", "math/bits.deBruijn32tab", "math/bits.deBruijn64tab"], plainKeys := false, apart := false, laid := [("math/bits.deBruijn32tab", laid_math_bits_deBruijn32tab), ("math/bits.deBruijn64tab", laid_math_bits_deBruijn64tab), ("internal/strconv.uint64pow10", laid_internal_strconv_uint64pow10)] }
def InternStableSaid : Prop := internStableRow.holds Tryd.pinned (OpenSpec.ofChange internStableSpec)

/-- ITS FALSE NEIGHBOUR: 'it returns false'. Refute it at one input. -/
def internStableWrong : ChangeSpec := { name := "internStable", fn := fun _ => fun
  | [d1, d2] => { results := [.lit (.bool false)], args := [d1, d2] }
  | _ => none }
def InternStableWrongFalsely : Prop := internStableRow.holds Tryd.pinned (OpenSpec.ofChange internStableWrong)

/-- 'palmettelaw04.InternAll': WHATEVER THE INPUT: true; the input reads as it did. -/
def internAllSpec : ChangeSpec := { name := "internAll", fn := fun _ => fun
  | [d1, d2] => { results := [.lit (.bool true)], args := [d1, d2] }
  | _ => none }
def internAllRow : OpenClaim := { program := "ytffnkjlobflhcaadoor", sum := "3f7055cf859ebd0417e395a884ce01a4ca72d427dcb3701f8f609877b6c3df1f", func := "palmette/palmettelaw04.InternAll", spec := "internAll", unfollowed := true, recurses := true, named := ["internal/strconv.uint64pow10", "math/bits.deBruijn32tab", "math/bits.deBruijn64tab"], plainKeys := false, apart := false, laid := [("math/bits.deBruijn32tab", laid_math_bits_deBruijn32tab), ("math/bits.deBruijn64tab", laid_math_bits_deBruijn64tab), ("internal/strconv.uint64pow10", laid_internal_strconv_uint64pow10)] }
def InternAllSaid : Prop := internAllRow.holds Tryd.pinned (OpenSpec.ofChange internAllSpec)

/-- ITS FALSE NEIGHBOUR: 'it returns false'. Refute it at one input. -/
def internAllWrong : ChangeSpec := { name := "internAll", fn := fun _ => fun
  | [d1, d2] => { results := [.lit (.bool false)], args := [d1, d2] }
  | _ => none }
def InternAllWrongFalsely : Prop := internAllRow.holds Tryd.pinned (OpenSpec.ofChange internAllWrong)

/-- 'palmettelaw04.InternSlices': WHATEVER THE INPUT: true; the input reads as it did. -/
def internSlicesSpec : ChangeSpec := { name := "internSlices", fn := fun _ => fun
  | [d1, d2, d3] => { results := [.lit (.bool true)], args := [d1, d2, d3] }
  | _ => none }
def internSlicesRow : OpenClaim := { program := "ytffnkjlobflhcaadoor", sum := "3f7055cf859ebd0417e395a884ce01a4ca72d427dcb3701f8f609877b6c3df1f", func := "palmette/palmettelaw04.InternSlices", spec := "internSlices", named := ["internal/strconv.uint64pow10", "math/bits.deBruijn32tab", "math/bits.deBruijn64tab"], plainKeys := false, apart := false, laid := [("math/bits.deBruijn32tab", laid_math_bits_deBruijn32tab), ("math/bits.deBruijn64tab", laid_math_bits_deBruijn64tab), ("internal/strconv.uint64pow10", laid_internal_strconv_uint64pow10)] }
def InternSlicesSaid : Prop := internSlicesRow.holds Tryd.pinned (OpenSpec.ofChange internSlicesSpec)

/-- ITS FALSE NEIGHBOUR: 'it returns false'. Refute it at one input. -/
def internSlicesWrong : ChangeSpec := { name := "internSlices", fn := fun _ => fun
  | [d1, d2, d3] => { results := [.lit (.bool false)], args := [d1, d2, d3] }
  | _ => none }
def InternSlicesWrongFalsely : Prop := internSlicesRow.holds Tryd.pinned (OpenSpec.ofChange internSlicesWrong)

/-- 'palmettelaw04.InternClones': WHATEVER THE INPUT: true; the input reads as it did. -/
def internClonesSpec : ChangeSpec := { name := "internClones", fn := fun _ => fun
  | [d1, d2, d3] => { results := [.lit (.bool true)], args := [d1, d2, d3] }
  | _ => none }
def internClonesRow : OpenClaim := { program := "ytffnkjlobflhcaadoor", sum := "3f7055cf859ebd0417e395a884ce01a4ca72d427dcb3701f8f609877b6c3df1f", func := "palmette/palmettelaw04.InternClones", spec := "internClones", named := ["internal/strconv.uint64pow10", "math/bits.deBruijn32tab", "math/bits.deBruijn64tab"], plainKeys := false, apart := false, laid := [("math/bits.deBruijn32tab", laid_math_bits_deBruijn32tab), ("math/bits.deBruijn64tab", laid_math_bits_deBruijn64tab), ("internal/strconv.uint64pow10", laid_internal_strconv_uint64pow10)] }
def InternClonesSaid : Prop := internClonesRow.holds Tryd.pinned (OpenSpec.ofChange internClonesSpec)

/-- ITS FALSE NEIGHBOUR: 'it returns false'. Refute it at one input. -/
def internClonesWrong : ChangeSpec := { name := "internClones", fn := fun _ => fun
  | [d1, d2, d3] => { results := [.lit (.bool false)], args := [d1, d2, d3] }
  | _ => none }
def InternClonesWrongFalsely : Prop := internClonesRow.holds Tryd.pinned (OpenSpec.ofChange internClonesWrong)

/-- 'palmettelaw04.InternSliceCopies': WHATEVER THE INPUT: true; the input reads as it did. -/
def internSliceCopiesSpec : ChangeSpec := { name := "internSliceCopies", fn := fun _ => fun
  | [d1, d2] => { results := [.lit (.bool true)], args := [d1, d2] }
  | _ => none }
def internSliceCopiesRow : OpenClaim := { program := "ytffnkjlobflhcaadoor", sum := "3f7055cf859ebd0417e395a884ce01a4ca72d427dcb3701f8f609877b6c3df1f", func := "palmette/palmettelaw04.InternSliceCopies", spec := "internSliceCopies", named := ["internal/strconv.uint64pow10", "math/bits.deBruijn32tab", "math/bits.deBruijn64tab"], plainKeys := false, apart := false, laid := [("math/bits.deBruijn32tab", laid_math_bits_deBruijn32tab), ("math/bits.deBruijn64tab", laid_math_bits_deBruijn64tab), ("internal/strconv.uint64pow10", laid_internal_strconv_uint64pow10)] }
def InternSliceCopiesSaid : Prop := internSliceCopiesRow.holds Tryd.pinned (OpenSpec.ofChange internSliceCopiesSpec)

/-- ITS FALSE NEIGHBOUR: 'it returns false'. Refute it at one input. -/
def internSliceCopiesWrong : ChangeSpec := { name := "internSliceCopies", fn := fun _ => fun
  | [d1, d2] => { results := [.lit (.bool false)], args := [d1, d2] }
  | _ => none }
def InternSliceCopiesWrongFalsely : Prop := internSliceCopiesRow.holds Tryd.pinned (OpenSpec.ofChange internSliceCopiesWrong)

/- THE SECOND FORM. 'bulk': how many values and letters a reading holds, each counted each time it is reached (what is shared counts as often as it is met; a slice's spare places count too). A statement '..UptoSaid' is the law's where the arguments, and the package variables that the reading takes, are together of bulk at most 1048576: NARROWER than '..Said'. Prove '..Said' where nothing that the law and all that it calls make is longer than what came in: it says more and counts as full. Else prove '..UptoSaid'. A law counts once. -/
mutual
def uptoBulk {H : Type} : DataW H → Nat
  | .lit (.string bytes) => bytes.length + 1
  | .lit _ => 1
  | .nil => 1
  | .ptr d => uptoBulk d + 1
  | .slice elems spare => uptoBulkAll elems + uptoBulkAll spare + 1
  | .agg parts => uptoBulkAll parts + 1
  | .iface _ d => uptoBulk d + 1
  | .map entries => uptoBulkEntries entries + 1
  | .held _ => 1
def uptoBulkAll {H : Type} : List (DataW H) → Nat
  | [] => 0
  | d :: r => uptoBulk d + uptoBulkAll r
def uptoBulkEntries {H : Type} : List (Lit × DataW H) → Nat
  | [] => 0
  | x :: r => uptoBulkEntry x + uptoBulkEntries r
def uptoBulkEntry {H : Type} : Lit × DataW H → Nat
  | (.string bytes, d) => bytes.length + uptoBulk d + 1
  | (_, d) => uptoBulk d + 1
 end
def uptoSmall : (H : Type) → List (DataW H) → Bool := fun _ ds => decide (uptoBulkAll ds ≤ 1048576)
def OpenSpec.upto (s : _root_.Go.ChangeSpec) : _root_.Go.OpenSpec := { _root_.Go.OpenSpec.ofChange s with cond := some uptoSmall }

/-- 'palmettelaw04.InternStructKeys', WHERE WHAT IT READS IS OF BULK AT MOST 1048576: true; the input reads as it did. -/
def internStructKeysUptoRow : OpenClaim := { program := "ytffnkjlobflhcaadoor", sum := "3f7055cf859ebd0417e395a884ce01a4ca72d427dcb3701f8f609877b6c3df1f", func := "palmette/palmettelaw04.InternStructKeys", spec := "internStructKeys", named := ["internal/strconv.uint64pow10", "math/bits.deBruijn32tab", "math/bits.deBruijn64tab"], plainKeys := false, apart := false, laid := [("math/bits.deBruijn32tab", laid_math_bits_deBruijn32tab), ("math/bits.deBruijn64tab", laid_math_bits_deBruijn64tab), ("internal/strconv.uint64pow10", laid_internal_strconv_uint64pow10)], narrowed := true }
def InternStructKeysUptoSaid : Prop := internStructKeysUptoRow.holds Tryd.pinned (OpenSpec.upto internStructKeysSpec)

/-- 'palmettelaw04.InternIds', WHERE WHAT IT READS IS OF BULK AT MOST 1048576: true; the input reads as it did. -/
def internIdsUptoRow : OpenClaim := { program := "ytffnkjlobflhcaadoor", sum := "3f7055cf859ebd0417e395a884ce01a4ca72d427dcb3701f8f609877b6c3df1f", func := "palmette/palmettelaw04.InternIds", spec := "internIds", named := ["internal/strconv.uint64pow10", "math/bits.deBruijn32tab", "math/bits.deBruijn64tab"], plainKeys := false, apart := false, laid := [("math/bits.deBruijn32tab", laid_math_bits_deBruijn32tab), ("math/bits.deBruijn64tab", laid_math_bits_deBruijn64tab), ("internal/strconv.uint64pow10", laid_internal_strconv_uint64pow10)], narrowed := true }
def InternIdsUptoSaid : Prop := internIdsUptoRow.holds Tryd.pinned (OpenSpec.upto internIdsSpec)

/-- 'palmettelaw04.InternStable', WHERE WHAT IT READS IS OF BULK AT MOST 1048576: true; the input reads as it did. -/
def internStableUptoRow : OpenClaim := { program := "ytffnkjlobflhcaadoor", sum := "3f7055cf859ebd0417e395a884ce01a4ca72d427dcb3701f8f609877b6c3df1f", func := "palmette/palmettelaw04.InternStable", spec := "internStable", named := ["internal/strconv.uint64pow10", "math/bits.deBruijn32tab", "math/bits.deBruijn64tab"], plainKeys := false, apart := false, laid := [("math/bits.deBruijn32tab", laid_math_bits_deBruijn32tab), ("math/bits.deBruijn64tab", laid_math_bits_deBruijn64tab), ("internal/strconv.uint64pow10", laid_internal_strconv_uint64pow10)], narrowed := true }
def InternStableUptoSaid : Prop := internStableUptoRow.holds Tryd.pinned (OpenSpec.upto internStableSpec)

/-- 'palmettelaw04.InternAll', WHERE WHAT IT READS IS OF BULK AT MOST 1048576: true; the input reads as it did. -/
def internAllUptoRow : OpenClaim := { program := "ytffnkjlobflhcaadoor", sum := "3f7055cf859ebd0417e395a884ce01a4ca72d427dcb3701f8f609877b6c3df1f", func := "palmette/palmettelaw04.InternAll", spec := "internAll", unfollowed := true, recurses := true, named := ["internal/strconv.uint64pow10", "math/bits.deBruijn32tab", "math/bits.deBruijn64tab"], plainKeys := false, apart := false, laid := [("math/bits.deBruijn32tab", laid_math_bits_deBruijn32tab), ("math/bits.deBruijn64tab", laid_math_bits_deBruijn64tab), ("internal/strconv.uint64pow10", laid_internal_strconv_uint64pow10)], narrowed := true }
def InternAllUptoSaid : Prop := internAllUptoRow.holds Tryd.pinned (OpenSpec.upto internAllSpec)

/-- 'palmettelaw04.InternSlices', WHERE WHAT IT READS IS OF BULK AT MOST 1048576: true; the input reads as it did. -/
def internSlicesUptoRow : OpenClaim := { program := "ytffnkjlobflhcaadoor", sum := "3f7055cf859ebd0417e395a884ce01a4ca72d427dcb3701f8f609877b6c3df1f", func := "palmette/palmettelaw04.InternSlices", spec := "internSlices", named := ["internal/strconv.uint64pow10", "math/bits.deBruijn32tab", "math/bits.deBruijn64tab"], plainKeys := false, apart := false, laid := [("math/bits.deBruijn32tab", laid_math_bits_deBruijn32tab), ("math/bits.deBruijn64tab", laid_math_bits_deBruijn64tab), ("internal/strconv.uint64pow10", laid_internal_strconv_uint64pow10)], narrowed := true }
def InternSlicesUptoSaid : Prop := internSlicesUptoRow.holds Tryd.pinned (OpenSpec.upto internSlicesSpec)

/-- 'palmettelaw04.InternClones', WHERE WHAT IT READS IS OF BULK AT MOST 1048576: true; the input reads as it did. -/
def internClonesUptoRow : OpenClaim := { program := "ytffnkjlobflhcaadoor", sum := "3f7055cf859ebd0417e395a884ce01a4ca72d427dcb3701f8f609877b6c3df1f", func := "palmette/palmettelaw04.InternClones", spec := "internClones", named := ["internal/strconv.uint64pow10", "math/bits.deBruijn32tab", "math/bits.deBruijn64tab"], plainKeys := false, apart := false, laid := [("math/bits.deBruijn32tab", laid_math_bits_deBruijn32tab), ("math/bits.deBruijn64tab", laid_math_bits_deBruijn64tab), ("internal/strconv.uint64pow10", laid_internal_strconv_uint64pow10)], narrowed := true }
def InternClonesUptoSaid : Prop := internClonesUptoRow.holds Tryd.pinned (OpenSpec.upto internClonesSpec)

/-- 'palmettelaw04.InternSliceCopies', WHERE WHAT IT READS IS OF BULK AT MOST 1048576: true; the input reads as it did. -/
def internSliceCopiesUptoRow : OpenClaim := { program := "ytffnkjlobflhcaadoor", sum := "3f7055cf859ebd0417e395a884ce01a4ca72d427dcb3701f8f609877b6c3df1f", func := "palmette/palmettelaw04.InternSliceCopies", spec := "internSliceCopies", named := ["internal/strconv.uint64pow10", "math/bits.deBruijn32tab", "math/bits.deBruijn64tab"], plainKeys := false, apart := false, laid := [("math/bits.deBruijn32tab", laid_math_bits_deBruijn32tab), ("math/bits.deBruijn64tab", laid_math_bits_deBruijn64tab), ("internal/strconv.uint64pow10", laid_internal_strconv_uint64pow10)], narrowed := true }
def InternSliceCopiesUptoSaid : Prop := internSliceCopiesUptoRow.holds Tryd.pinned (OpenSpec.upto internSliceCopiesSpec)

end Rows
end Go.Proofs.YtffnkjlobflhcaaDoor
