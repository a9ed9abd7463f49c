/-
  NARROWER THAN 'FOR EVERY INPUT', by the rows' own cells (each row's printed sentence says how): CapDead: laid · CapHas: laid · CapDerive: laid · CapSeals: laid · CapAsks: laid · CapLess: laid · CapOrder: laid · CapClosed: laid · CapBounds: laid · CapPerms: laid.
  DERIVED. THE GIVEN ROWS OF THIS SEAT. 10 by the template 'for every input the law returns true; each argument reads behind the call as it read before'; 0 by the template 'total and deterministic' (their statements: YtfhmkmbdfeoegaaDoorTotals.lean).
  GIVEN WITH THE SEED: the statements are not yours to turn. If you find one false, say at which input.
  Laid BY PROGRAM, IN A SANDBOX (cutbox-rows.mjs): the forced cells as the released guide's own fill.sh prints them over the translation bdfa3746de9e2892… (all of the seat's roots in one cut). By AI agents, Wed Nov 11 2026. No macro, syntax, notation, axiom, sorry.
-/
import Derived.Test.YtfhmkmbdfeoegaaDoorChecked
import GoSem.Claim
import GoSem.ClaimJoined
import GoSem.ClaimMapViews
import Derived.JoinedTies
import Derived.KernelRfl
namespace Go.Proofs.YtfhmkmbdfeoegaaDoor
/- THE CELL 'sum', in the pinned program and in every row, IS THE sha256 OF THE DUMP (.gsa) THAT YtfhmkmbdfeoegaaDoorProg.lean LOADS. Nothing in Lean hashes anything: it is a label: what it is worth is what the hold of that sum in a sandbox is worth. -/
noncomputable def Tryd.pinned : Pinned := { name := "ytfhmkmbdfeoegaadoor", sum := "bdfa3746de9e28922e7ed3ab57544d5ff0a01c0260b1f4a951ba35462f719b58", checked := Tryd.checked }
namespace Rows
def none {H : Type} : Left H := { results := [], args := [] }

/- WHAT THE LISTED PACKAGE-LEVEL VARIABLES READ AS WHEN THE CALL BEGINS. Each datum BY PROGRAM (the guide's laid-datum.mjs) off the statement by which the dump's own 'gosem.cut.vars' lays the variable. In a bare row this is a premise. The card (YtfhmkmbdfeoegaaDoorCards.lean) ties it to the program's text. -/
def laid_math_bits_deBruijn32tab {H : Type} : DataW H := .agg [.lit (.int .u8 0), .lit (.int .u8 1), .lit (.int .u8 28), .lit (.int .u8 2), .lit (.int .u8 29), .lit (.int .u8 14), .lit (.int .u8 24), .lit (.int .u8 3), .lit (.int .u8 30), .lit (.int .u8 22), .lit (.int .u8 20), .lit (.int .u8 15), .lit (.int .u8 25), .lit (.int .u8 17), .lit (.int .u8 4), .lit (.int .u8 8), .lit (.int .u8 31), .lit (.int .u8 27), .lit (.int .u8 13), .lit (.int .u8 23), .lit (.int .u8 21), .lit (.int .u8 19), .lit (.int .u8 16), .lit (.int .u8 7), .lit (.int .u8 26), .lit (.int .u8 12), .lit (.int .u8 18), .lit (.int .u8 6), .lit (.int .u8 11), .lit (.int .u8 5), .lit (.int .u8 10), .lit (.int .u8 9)]
def laid_math_bits_deBruijn64tab {H : Type} : DataW H := .agg [.lit (.int .u8 0), .lit (.int .u8 1), .lit (.int .u8 56), .lit (.int .u8 2), .lit (.int .u8 57), .lit (.int .u8 49), .lit (.int .u8 28), .lit (.int .u8 3), .lit (.int .u8 61), .lit (.int .u8 58), .lit (.int .u8 42), .lit (.int .u8 50), .lit (.int .u8 38), .lit (.int .u8 29), .lit (.int .u8 17), .lit (.int .u8 4), .lit (.int .u8 62), .lit (.int .u8 47), .lit (.int .u8 59), .lit (.int .u8 36), .lit (.int .u8 45), .lit (.int .u8 43), .lit (.int .u8 51), .lit (.int .u8 22), .lit (.int .u8 53), .lit (.int .u8 39), .lit (.int .u8 33), .lit (.int .u8 30), .lit (.int .u8 24), .lit (.int .u8 18), .lit (.int .u8 12), .lit (.int .u8 5), .lit (.int .u8 63), .lit (.int .u8 55), .lit (.int .u8 48), .lit (.int .u8 27), .lit (.int .u8 60), .lit (.int .u8 41), .lit (.int .u8 37), .lit (.int .u8 16), .lit (.int .u8 46), .lit (.int .u8 35), .lit (.int .u8 44), .lit (.int .u8 21), .lit (.int .u8 52), .lit (.int .u8 32), .lit (.int .u8 23), .lit (.int .u8 11), .lit (.int .u8 54), .lit (.int .u8 26), .lit (.int .u8 40), .lit (.int .u8 15), .lit (.int .u8 34), .lit (.int .u8 20), .lit (.int .u8 31), .lit (.int .u8 10), .lit (.int .u8 25), .lit (.int .u8 14), .lit (.int .u8 19), .lit (.int .u8 9), .lit (.int .u8 13), .lit (.int .u8 8), .lit (.int .u8 7), .lit (.int .u8 6)]
def laid_internal_strconv_uint64pow10 {H : Type} : DataW H := .agg [.lit (.int .u64 1), .lit (.int .u64 10), .lit (.int .u64 100), .lit (.int .u64 1000), .lit (.int .u64 10000), .lit (.int .u64 100000), .lit (.int .u64 1000000), .lit (.int .u64 10000000), .lit (.int .u64 100000000), .lit (.int .u64 1000000000), .lit (.int .u64 10000000000), .lit (.int .u64 100000000000), .lit (.int .u64 1000000000000), .lit (.int .u64 10000000000000), .lit (.int .u64 100000000000000), .lit (.int .u64 1000000000000000), .lit (.int .u64 10000000000000000), .lit (.int .u64 100000000000000000), .lit (.int .u64 1000000000000000000), .lit (.int .u64 10000000000000000000)]

/-- 'hasplaw2.CapDead': WHATEVER THE INPUT: true; the input reads as it did. -/
def capDeadSpec : ChangeSpec := { name := "capDead", fn := fun _ => fun
  | [d1, d2, d3, d4] => { results := [.lit (.bool true)], args := [d1, d2, d3, d4] }
  | _ => none }
def capDeadRow : OpenClaim := { program := "ytfhmkmbdfeoegaadoor", sum := "bdfa3746de9e28922e7ed3ab57544d5ff0a01c0260b1f4a951ba35462f719b58", func := "hasp/hasplaw2.CapDead", spec := "capDead", named := ["internal/strconv.uint64pow10", "math/bits.deBruijn32tab", "math/bits.deBruijn64tab"], apart := false, laid := [("math/bits.deBruijn32tab", laid_math_bits_deBruijn32tab), ("math/bits.deBruijn64tab", laid_math_bits_deBruijn64tab), ("internal/strconv.uint64pow10", laid_internal_strconv_uint64pow10)] }
def CapDeadSaid : Prop := capDeadRow.holds Tryd.pinned (OpenSpec.ofChange capDeadSpec)

/-- ITS FALSE NEIGHBOUR: 'it returns false'. Refute it at one input. -/
def capDeadWrong : ChangeSpec := { name := "capDead", fn := fun _ => fun
  | [d1, d2, d3, d4] => { results := [.lit (.bool false)], args := [d1, d2, d3, d4] }
  | _ => none }
def CapDeadWrongFalsely : Prop := capDeadRow.holds Tryd.pinned (OpenSpec.ofChange capDeadWrong)

/-- 'hasplaw2.CapHas': WHATEVER THE INPUT: true; the input reads as it did. -/
def capHasSpec : ChangeSpec := { name := "capHas", fn := fun _ => fun
  | [d1, d2, d3] => { results := [.lit (.bool true)], args := [d1, d2, d3] }
  | _ => none }
def capHasRow : OpenClaim := { program := "ytfhmkmbdfeoegaadoor", sum := "bdfa3746de9e28922e7ed3ab57544d5ff0a01c0260b1f4a951ba35462f719b58", func := "hasp/hasplaw2.CapHas", spec := "capHas", named := ["internal/strconv.uint64pow10", "math/bits.deBruijn32tab", "math/bits.deBruijn64tab"], apart := false, laid := [("math/bits.deBruijn32tab", laid_math_bits_deBruijn32tab), ("math/bits.deBruijn64tab", laid_math_bits_deBruijn64tab), ("internal/strconv.uint64pow10", laid_internal_strconv_uint64pow10)] }
def CapHasSaid : Prop := capHasRow.holds Tryd.pinned (OpenSpec.ofChange capHasSpec)

/-- ITS FALSE NEIGHBOUR: 'it returns false'. Refute it at one input. -/
def capHasWrong : ChangeSpec := { name := "capHas", fn := fun _ => fun
  | [d1, d2, d3] => { results := [.lit (.bool false)], args := [d1, d2, d3] }
  | _ => none }
def CapHasWrongFalsely : Prop := capHasRow.holds Tryd.pinned (OpenSpec.ofChange capHasWrong)

/-- 'hasplaw2.CapDerive': WHATEVER THE INPUT: true; the input reads as it did. -/
def capDeriveSpec : ChangeSpec := { name := "capDerive", fn := fun _ => fun
  | [d1, d2, d3] => { results := [.lit (.bool true)], args := [d1, d2, d3] }
  | _ => none }
def capDeriveRow : OpenClaim := { program := "ytfhmkmbdfeoegaadoor", sum := "bdfa3746de9e28922e7ed3ab57544d5ff0a01c0260b1f4a951ba35462f719b58", func := "hasp/hasplaw2.CapDerive", spec := "capDerive", named := ["internal/strconv.uint64pow10", "math/bits.deBruijn32tab", "math/bits.deBruijn64tab"], apart := false, laid := [("math/bits.deBruijn32tab", laid_math_bits_deBruijn32tab), ("math/bits.deBruijn64tab", laid_math_bits_deBruijn64tab), ("internal/strconv.uint64pow10", laid_internal_strconv_uint64pow10)] }
def CapDeriveSaid : Prop := capDeriveRow.holds Tryd.pinned (OpenSpec.ofChange capDeriveSpec)

/-- ITS FALSE NEIGHBOUR: 'it returns false'. Refute it at one input. -/
def capDeriveWrong : ChangeSpec := { name := "capDerive", fn := fun _ => fun
  | [d1, d2, d3] => { results := [.lit (.bool false)], args := [d1, d2, d3] }
  | _ => none }
def CapDeriveWrongFalsely : Prop := capDeriveRow.holds Tryd.pinned (OpenSpec.ofChange capDeriveWrong)

/-- 'hasplaw2.CapSeals': WHATEVER THE INPUT: true; the input reads as it did. -/
def capSealsSpec : ChangeSpec := { name := "capSeals", fn := fun _ => fun
  | [d1, d2] => { results := [.lit (.bool true)], args := [d1, d2] }
  | _ => none }
def capSealsRow : OpenClaim := { program := "ytfhmkmbdfeoegaadoor", sum := "bdfa3746de9e28922e7ed3ab57544d5ff0a01c0260b1f4a951ba35462f719b58", func := "hasp/hasplaw2.CapSeals", spec := "capSeals", named := ["internal/strconv.uint64pow10", "math/bits.deBruijn32tab", "math/bits.deBruijn64tab"], apart := false, laid := [("math/bits.deBruijn32tab", laid_math_bits_deBruijn32tab), ("math/bits.deBruijn64tab", laid_math_bits_deBruijn64tab), ("internal/strconv.uint64pow10", laid_internal_strconv_uint64pow10)] }
def CapSealsSaid : Prop := capSealsRow.holds Tryd.pinned (OpenSpec.ofChange capSealsSpec)

/-- ITS FALSE NEIGHBOUR: 'it returns false'. Refute it at one input. -/
def capSealsWrong : ChangeSpec := { name := "capSeals", fn := fun _ => fun
  | [d1, d2] => { results := [.lit (.bool false)], args := [d1, d2] }
  | _ => none }
def CapSealsWrongFalsely : Prop := capSealsRow.holds Tryd.pinned (OpenSpec.ofChange capSealsWrong)

/-- 'hasplaw2.CapAsks': WHATEVER THE INPUT: true; the input reads as it did. -/
def capAsksSpec : ChangeSpec := { name := "capAsks", fn := fun _ => fun
  | [d1, d2, d3, d4] => { results := [.lit (.bool true)], args := [d1, d2, d3, d4] }
  | _ => none }
def capAsksRow : OpenClaim := { program := "ytfhmkmbdfeoegaadoor", sum := "bdfa3746de9e28922e7ed3ab57544d5ff0a01c0260b1f4a951ba35462f719b58", func := "hasp/hasplaw2.CapAsks", spec := "capAsks", recurses := true, named := ["internal/strconv.uint64pow10", "math/bits.deBruijn32tab", "math/bits.deBruijn64tab"], apart := false, laid := [("math/bits.deBruijn32tab", laid_math_bits_deBruijn32tab), ("math/bits.deBruijn64tab", laid_math_bits_deBruijn64tab), ("internal/strconv.uint64pow10", laid_internal_strconv_uint64pow10)] }
def CapAsksSaid : Prop := capAsksRow.holds Tryd.pinned (OpenSpec.ofChange capAsksSpec)

/-- ITS FALSE NEIGHBOUR: 'it returns false'. Refute it at one input. -/
def capAsksWrong : ChangeSpec := { name := "capAsks", fn := fun _ => fun
  | [d1, d2, d3, d4] => { results := [.lit (.bool false)], args := [d1, d2, d3, d4] }
  | _ => none }
def CapAsksWrongFalsely : Prop := capAsksRow.holds Tryd.pinned (OpenSpec.ofChange capAsksWrong)

/-- 'hasplaw2.CapLess': WHATEVER THE INPUT: true; the input reads as it did. -/
def capLessSpec : ChangeSpec := { name := "capLess", fn := fun _ => fun
  | [d1, d2, d3, d4] => { results := [.lit (.bool true)], args := [d1, d2, d3, d4] }
  | _ => none }
def capLessRow : OpenClaim := { program := "ytfhmkmbdfeoegaadoor", sum := "bdfa3746de9e28922e7ed3ab57544d5ff0a01c0260b1f4a951ba35462f719b58", func := "hasp/hasplaw2.CapLess", spec := "capLess", named := ["internal/strconv.uint64pow10", "math/bits.deBruijn32tab", "math/bits.deBruijn64tab"], apart := false, laid := [("math/bits.deBruijn32tab", laid_math_bits_deBruijn32tab), ("math/bits.deBruijn64tab", laid_math_bits_deBruijn64tab), ("internal/strconv.uint64pow10", laid_internal_strconv_uint64pow10)] }
def CapLessSaid : Prop := capLessRow.holds Tryd.pinned (OpenSpec.ofChange capLessSpec)

/-- ITS FALSE NEIGHBOUR: 'it returns false'. Refute it at one input. -/
def capLessWrong : ChangeSpec := { name := "capLess", fn := fun _ => fun
  | [d1, d2, d3, d4] => { results := [.lit (.bool false)], args := [d1, d2, d3, d4] }
  | _ => none }
def CapLessWrongFalsely : Prop := capLessRow.holds Tryd.pinned (OpenSpec.ofChange capLessWrong)

/-- 'hasplaw2.CapOrder': WHATEVER THE INPUT: true; the input reads as it did. -/
def capOrderSpec : ChangeSpec := { name := "capOrder", fn := fun _ => fun
  | [d1, d2, d3] => { results := [.lit (.bool true)], args := [d1, d2, d3] }
  | _ => none }
def capOrderRow : OpenClaim := { program := "ytfhmkmbdfeoegaadoor", sum := "bdfa3746de9e28922e7ed3ab57544d5ff0a01c0260b1f4a951ba35462f719b58", func := "hasp/hasplaw2.CapOrder", spec := "capOrder", named := ["internal/strconv.uint64pow10", "math/bits.deBruijn32tab", "math/bits.deBruijn64tab"], apart := false, laid := [("math/bits.deBruijn32tab", laid_math_bits_deBruijn32tab), ("math/bits.deBruijn64tab", laid_math_bits_deBruijn64tab), ("internal/strconv.uint64pow10", laid_internal_strconv_uint64pow10)] }
def CapOrderSaid : Prop := capOrderRow.holds Tryd.pinned (OpenSpec.ofChange capOrderSpec)

/-- ITS FALSE NEIGHBOUR: 'it returns false'. Refute it at one input. -/
def capOrderWrong : ChangeSpec := { name := "capOrder", fn := fun _ => fun
  | [d1, d2, d3] => { results := [.lit (.bool false)], args := [d1, d2, d3] }
  | _ => none }
def CapOrderWrongFalsely : Prop := capOrderRow.holds Tryd.pinned (OpenSpec.ofChange capOrderWrong)

/-- 'hasplaw2.CapClosed': WHATEVER THE INPUT: true; the input reads as it did. -/
def capClosedSpec : ChangeSpec := { name := "capClosed", fn := fun _ => fun
  | [d1, d2, d3, d4] => { results := [.lit (.bool true)], args := [d1, d2, d3, d4] }
  | _ => none }
def capClosedRow : OpenClaim := { program := "ytfhmkmbdfeoegaadoor", sum := "bdfa3746de9e28922e7ed3ab57544d5ff0a01c0260b1f4a951ba35462f719b58", func := "hasp/hasplaw2.CapClosed", spec := "capClosed", named := ["internal/strconv.uint64pow10", "math/bits.deBruijn32tab", "math/bits.deBruijn64tab"], apart := false, laid := [("math/bits.deBruijn32tab", laid_math_bits_deBruijn32tab), ("math/bits.deBruijn64tab", laid_math_bits_deBruijn64tab), ("internal/strconv.uint64pow10", laid_internal_strconv_uint64pow10)] }
def CapClosedSaid : Prop := capClosedRow.holds Tryd.pinned (OpenSpec.ofChange capClosedSpec)

/-- ITS FALSE NEIGHBOUR: 'it returns false'. Refute it at one input. -/
def capClosedWrong : ChangeSpec := { name := "capClosed", fn := fun _ => fun
  | [d1, d2, d3, d4] => { results := [.lit (.bool false)], args := [d1, d2, d3, d4] }
  | _ => none }
def CapClosedWrongFalsely : Prop := capClosedRow.holds Tryd.pinned (OpenSpec.ofChange capClosedWrong)

/-- 'hasplaw2.CapBounds': WHATEVER THE INPUT: true; the input reads as it did. -/
def capBoundsSpec : ChangeSpec := { name := "capBounds", fn := fun _ => fun
  | [d1, d2, d3] => { results := [.lit (.bool true)], args := [d1, d2, d3] }
  | _ => none }
def capBoundsRow : OpenClaim := { program := "ytfhmkmbdfeoegaadoor", sum := "bdfa3746de9e28922e7ed3ab57544d5ff0a01c0260b1f4a951ba35462f719b58", func := "hasp/hasplaw2.CapBounds", spec := "capBounds", named := ["internal/strconv.uint64pow10", "math/bits.deBruijn32tab", "math/bits.deBruijn64tab"], apart := false, laid := [("math/bits.deBruijn32tab", laid_math_bits_deBruijn32tab), ("math/bits.deBruijn64tab", laid_math_bits_deBruijn64tab), ("internal/strconv.uint64pow10", laid_internal_strconv_uint64pow10)] }
def CapBoundsSaid : Prop := capBoundsRow.holds Tryd.pinned (OpenSpec.ofChange capBoundsSpec)

/-- ITS FALSE NEIGHBOUR: 'it returns false'. Refute it at one input. -/
def capBoundsWrong : ChangeSpec := { name := "capBounds", fn := fun _ => fun
  | [d1, d2, d3] => { results := [.lit (.bool false)], args := [d1, d2, d3] }
  | _ => none }
def CapBoundsWrongFalsely : Prop := capBoundsRow.holds Tryd.pinned (OpenSpec.ofChange capBoundsWrong)

/-- 'hasplaw2.CapPerms': WHATEVER THE INPUT: true; the input reads as it did. -/
def capPermsSpec : ChangeSpec := { name := "capPerms", fn := fun _ => fun
  | [d1, d2, d3] => { results := [.lit (.bool true)], args := [d1, d2, d3] }
  | _ => none }
def capPermsRow : OpenClaim := { program := "ytfhmkmbdfeoegaadoor", sum := "bdfa3746de9e28922e7ed3ab57544d5ff0a01c0260b1f4a951ba35462f719b58", func := "hasp/hasplaw2.CapPerms", spec := "capPerms", named := ["internal/strconv.uint64pow10", "math/bits.deBruijn32tab", "math/bits.deBruijn64tab"], apart := false, laid := [("math/bits.deBruijn32tab", laid_math_bits_deBruijn32tab), ("math/bits.deBruijn64tab", laid_math_bits_deBruijn64tab), ("internal/strconv.uint64pow10", laid_internal_strconv_uint64pow10)] }
def CapPermsSaid : Prop := capPermsRow.holds Tryd.pinned (OpenSpec.ofChange capPermsSpec)

/-- ITS FALSE NEIGHBOUR: 'it returns false'. Refute it at one input. -/
def capPermsWrong : ChangeSpec := { name := "capPerms", fn := fun _ => fun
  | [d1, d2, d3] => { results := [.lit (.bool false)], args := [d1, d2, d3] }
  | _ => none }
def CapPermsWrongFalsely : Prop := capPermsRow.holds Tryd.pinned (OpenSpec.ofChange capPermsWrong)

/- THE SECOND FORM. 'bulk': how many values and letters a reading holds, each counted each time it is reached (what is shared counts as often as it is met; a slice's spare places count too). A statement '..UptoSaid' is the law's where the arguments, and the package variables that the reading takes, are together of bulk at most 1048576: NARROWER than '..Said'. Prove '..Said' where nothing that the law and all that it calls make is longer than what came in: it says more and counts as full. Else prove '..UptoSaid'. A law counts once. -/
mutual
def uptoBulk {H : Type} : DataW H → Nat
  | .lit (.string bytes) => bytes.length + 1
  | .lit _ => 1
  | .nil => 1
  | .ptr d => uptoBulk d + 1
  | .slice elems spare => uptoBulkAll elems + uptoBulkAll spare + 1
  | .agg parts => uptoBulkAll parts + 1
  | .iface _ d => uptoBulk d + 1
  | .map entries => uptoBulkEntries entries + 1
  | .held _ => 1
def uptoBulkAll {H : Type} : List (DataW H) → Nat
  | [] => 0
  | d :: r => uptoBulk d + uptoBulkAll r
def uptoBulkEntries {H : Type} : List (Lit × DataW H) → Nat
  | [] => 0
  | x :: r => uptoBulkEntry x + uptoBulkEntries r
def uptoBulkEntry {H : Type} : Lit × DataW H → Nat
  | (.string bytes, d) => bytes.length + uptoBulk d + 1
  | (_, d) => uptoBulk d + 1
 end
def uptoSmall : (H : Type) → List (DataW H) → Bool := fun _ ds => decide (uptoBulkAll ds ≤ 1048576)
def OpenSpec.upto (s : _root_.Go.ChangeSpec) : _root_.Go.OpenSpec := { _root_.Go.OpenSpec.ofChange s with cond := some uptoSmall }

/-- 'hasplaw2.CapDead', WHERE WHAT IT READS IS OF BULK AT MOST 1048576: true; the input reads as it did. -/
def capDeadUptoRow : OpenClaim := { program := "ytfhmkmbdfeoegaadoor", sum := "bdfa3746de9e28922e7ed3ab57544d5ff0a01c0260b1f4a951ba35462f719b58", func := "hasp/hasplaw2.CapDead", spec := "capDead", named := ["internal/strconv.uint64pow10", "math/bits.deBruijn32tab", "math/bits.deBruijn64tab"], apart := false, laid := [("math/bits.deBruijn32tab", laid_math_bits_deBruijn32tab), ("math/bits.deBruijn64tab", laid_math_bits_deBruijn64tab), ("internal/strconv.uint64pow10", laid_internal_strconv_uint64pow10)], narrowed := true }
def CapDeadUptoSaid : Prop := capDeadUptoRow.holds Tryd.pinned (OpenSpec.upto capDeadSpec)

/-- 'hasplaw2.CapHas', WHERE WHAT IT READS IS OF BULK AT MOST 1048576: true; the input reads as it did. -/
def capHasUptoRow : OpenClaim := { program := "ytfhmkmbdfeoegaadoor", sum := "bdfa3746de9e28922e7ed3ab57544d5ff0a01c0260b1f4a951ba35462f719b58", func := "hasp/hasplaw2.CapHas", spec := "capHas", named := ["internal/strconv.uint64pow10", "math/bits.deBruijn32tab", "math/bits.deBruijn64tab"], apart := false, laid := [("math/bits.deBruijn32tab", laid_math_bits_deBruijn32tab), ("math/bits.deBruijn64tab", laid_math_bits_deBruijn64tab), ("internal/strconv.uint64pow10", laid_internal_strconv_uint64pow10)], narrowed := true }
def CapHasUptoSaid : Prop := capHasUptoRow.holds Tryd.pinned (OpenSpec.upto capHasSpec)

/-- 'hasplaw2.CapDerive', WHERE WHAT IT READS IS OF BULK AT MOST 1048576: true; the input reads as it did. -/
def capDeriveUptoRow : OpenClaim := { program := "ytfhmkmbdfeoegaadoor", sum := "bdfa3746de9e28922e7ed3ab57544d5ff0a01c0260b1f4a951ba35462f719b58", func := "hasp/hasplaw2.CapDerive", spec := "capDerive", named := ["internal/strconv.uint64pow10", "math/bits.deBruijn32tab", "math/bits.deBruijn64tab"], apart := false, laid := [("math/bits.deBruijn32tab", laid_math_bits_deBruijn32tab), ("math/bits.deBruijn64tab", laid_math_bits_deBruijn64tab), ("internal/strconv.uint64pow10", laid_internal_strconv_uint64pow10)], narrowed := true }
def CapDeriveUptoSaid : Prop := capDeriveUptoRow.holds Tryd.pinned (OpenSpec.upto capDeriveSpec)

/-- 'hasplaw2.CapSeals', WHERE WHAT IT READS IS OF BULK AT MOST 1048576: true; the input reads as it did. -/
def capSealsUptoRow : OpenClaim := { program := "ytfhmkmbdfeoegaadoor", sum := "bdfa3746de9e28922e7ed3ab57544d5ff0a01c0260b1f4a951ba35462f719b58", func := "hasp/hasplaw2.CapSeals", spec := "capSeals", named := ["internal/strconv.uint64pow10", "math/bits.deBruijn32tab", "math/bits.deBruijn64tab"], apart := false, laid := [("math/bits.deBruijn32tab", laid_math_bits_deBruijn32tab), ("math/bits.deBruijn64tab", laid_math_bits_deBruijn64tab), ("internal/strconv.uint64pow10", laid_internal_strconv_uint64pow10)], narrowed := true }
def CapSealsUptoSaid : Prop := capSealsUptoRow.holds Tryd.pinned (OpenSpec.upto capSealsSpec)

/-- 'hasplaw2.CapAsks', WHERE WHAT IT READS IS OF BULK AT MOST 1048576: true; the input reads as it did. -/
def capAsksUptoRow : OpenClaim := { program := "ytfhmkmbdfeoegaadoor", sum := "bdfa3746de9e28922e7ed3ab57544d5ff0a01c0260b1f4a951ba35462f719b58", func := "hasp/hasplaw2.CapAsks", spec := "capAsks", recurses := true, named := ["internal/strconv.uint64pow10", "math/bits.deBruijn32tab", "math/bits.deBruijn64tab"], apart := false, laid := [("math/bits.deBruijn32tab", laid_math_bits_deBruijn32tab), ("math/bits.deBruijn64tab", laid_math_bits_deBruijn64tab), ("internal/strconv.uint64pow10", laid_internal_strconv_uint64pow10)], narrowed := true }
def CapAsksUptoSaid : Prop := capAsksUptoRow.holds Tryd.pinned (OpenSpec.upto capAsksSpec)

/-- 'hasplaw2.CapLess', WHERE WHAT IT READS IS OF BULK AT MOST 1048576: true; the input reads as it did. -/
def capLessUptoRow : OpenClaim := { program := "ytfhmkmbdfeoegaadoor", sum := "bdfa3746de9e28922e7ed3ab57544d5ff0a01c0260b1f4a951ba35462f719b58", func := "hasp/hasplaw2.CapLess", spec := "capLess", named := ["internal/strconv.uint64pow10", "math/bits.deBruijn32tab", "math/bits.deBruijn64tab"], apart := false, laid := [("math/bits.deBruijn32tab", laid_math_bits_deBruijn32tab), ("math/bits.deBruijn64tab", laid_math_bits_deBruijn64tab), ("internal/strconv.uint64pow10", laid_internal_strconv_uint64pow10)], narrowed := true }
def CapLessUptoSaid : Prop := capLessUptoRow.holds Tryd.pinned (OpenSpec.upto capLessSpec)

/-- 'hasplaw2.CapOrder', WHERE WHAT IT READS IS OF BULK AT MOST 1048576: true; the input reads as it did. -/
def capOrderUptoRow : OpenClaim := { program := "ytfhmkmbdfeoegaadoor", sum := "bdfa3746de9e28922e7ed3ab57544d5ff0a01c0260b1f4a951ba35462f719b58", func := "hasp/hasplaw2.CapOrder", spec := "capOrder", named := ["internal/strconv.uint64pow10", "math/bits.deBruijn32tab", "math/bits.deBruijn64tab"], apart := false, laid := [("math/bits.deBruijn32tab", laid_math_bits_deBruijn32tab), ("math/bits.deBruijn64tab", laid_math_bits_deBruijn64tab), ("internal/strconv.uint64pow10", laid_internal_strconv_uint64pow10)], narrowed := true }
def CapOrderUptoSaid : Prop := capOrderUptoRow.holds Tryd.pinned (OpenSpec.upto capOrderSpec)

/-- 'hasplaw2.CapClosed', WHERE WHAT IT READS IS OF BULK AT MOST 1048576: true; the input reads as it did. -/
def capClosedUptoRow : OpenClaim := { program := "ytfhmkmbdfeoegaadoor", sum := "bdfa3746de9e28922e7ed3ab57544d5ff0a01c0260b1f4a951ba35462f719b58", func := "hasp/hasplaw2.CapClosed", spec := "capClosed", named := ["internal/strconv.uint64pow10", "math/bits.deBruijn32tab", "math/bits.deBruijn64tab"], apart := false, laid := [("math/bits.deBruijn32tab", laid_math_bits_deBruijn32tab), ("math/bits.deBruijn64tab", laid_math_bits_deBruijn64tab), ("internal/strconv.uint64pow10", laid_internal_strconv_uint64pow10)], narrowed := true }
def CapClosedUptoSaid : Prop := capClosedUptoRow.holds Tryd.pinned (OpenSpec.upto capClosedSpec)

/-- 'hasplaw2.CapBounds', WHERE WHAT IT READS IS OF BULK AT MOST 1048576: true; the input reads as it did. -/
def capBoundsUptoRow : OpenClaim := { program := "ytfhmkmbdfeoegaadoor", sum := "bdfa3746de9e28922e7ed3ab57544d5ff0a01c0260b1f4a951ba35462f719b58", func := "hasp/hasplaw2.CapBounds", spec := "capBounds", named := ["internal/strconv.uint64pow10", "math/bits.deBruijn32tab", "math/bits.deBruijn64tab"], apart := false, laid := [("math/bits.deBruijn32tab", laid_math_bits_deBruijn32tab), ("math/bits.deBruijn64tab", laid_math_bits_deBruijn64tab), ("internal/strconv.uint64pow10", laid_internal_strconv_uint64pow10)], narrowed := true }
def CapBoundsUptoSaid : Prop := capBoundsUptoRow.holds Tryd.pinned (OpenSpec.upto capBoundsSpec)

/-- 'hasplaw2.CapPerms', WHERE WHAT IT READS IS OF BULK AT MOST 1048576: true; the input reads as it did. -/
def capPermsUptoRow : OpenClaim := { program := "ytfhmkmbdfeoegaadoor", sum := "bdfa3746de9e28922e7ed3ab57544d5ff0a01c0260b1f4a951ba35462f719b58", func := "hasp/hasplaw2.CapPerms", spec := "capPerms", named := ["internal/strconv.uint64pow10", "math/bits.deBruijn32tab", "math/bits.deBruijn64tab"], apart := false, laid := [("math/bits.deBruijn32tab", laid_math_bits_deBruijn32tab), ("math/bits.deBruijn64tab", laid_math_bits_deBruijn64tab), ("internal/strconv.uint64pow10", laid_internal_strconv_uint64pow10)], narrowed := true }
def CapPermsUptoSaid : Prop := capPermsUptoRow.holds Tryd.pinned (OpenSpec.upto capPermsSpec)

end Rows
end Go.Proofs.YtfhmkmbdfeoegaaDoor
