/-
  No cell of these rows narrows 'for every input' (looked for: loops, veiled, ifaces, maps, wideKeys, modest, calm, conditions, laid).
  DERIVED. THE GIVEN ROWS OF THIS SEAT. 10 by the template 'for every input the law returns true; each argument reads behind the call as it read before'; 0 by the template 'total and deterministic' (their statements: YtjjpiioagoeiiaaTotals.lean).
  GIVEN WITH THE SEED: the statements are not yours to turn. If you find one false, say at which input.
  Laid BY PROGRAM, IN A SANDBOX (cutbox-rows.mjs): the forced cells as the released guide's own fill.sh prints them over the translation 67ecb5106e137ede… (all of the seat's roots in one cut). By AI agents, Wed Nov 11 2026. No macro, syntax, notation, axiom, sorry.
-/
import Derived.Test.YtjjpiioagoeiiaaChecked
import GoSem.Claim
import GoSem.ClaimJoined
import GoSem.ClaimMapViews
import Derived.JoinedTies
import Derived.KernelRfl
namespace Go.Proofs.Ytjjpiioagoeiiaa
/- THE CELL 'sum', in the pinned program and in every row, IS THE sha256 OF THE DUMP (.gsa) THAT YtjjpiioagoeiiaaProg.lean LOADS. Nothing in Lean hashes anything: it is a label: what it is worth is what the hold of that sum in a sandbox is worth. -/
noncomputable def Try.pinned : Pinned := { name := "ytjjpiioagoeiiaa", sum := "67ecb5106e137edea7a7dbd9ae57c549414d9a9876153af19933bf4d8306387d", checked := Try.checked }
namespace Rows
def none {H : Type} : Left H := { results := [], args := [] }

/-- 'laws.FnExactConstants': WHATEVER THE INPUT: true; the input reads as it did. -/
def fnExactConstantsSpec : ChangeSpec := { name := "fnExactConstants", fn := fun _ => fun
  | [] => { results := [.lit (.bool true)], args := [] }
  | _ => none }
def fnExactConstantsRow : OpenClaim := { program := "ytjjpiioagoeiiaa", sum := "67ecb5106e137edea7a7dbd9ae57c549414d9a9876153af19933bf4d8306387d", func := "loop.example/g00445/laws.FnExactConstants", spec := "fnExactConstants", apart := false }
def FnExactConstantsSaid : Prop := fnExactConstantsRow.holds Try.pinned (OpenSpec.ofChange fnExactConstantsSpec)

/-- ITS FALSE NEIGHBOUR: 'it returns false'. Refute it at one input. -/
def fnExactConstantsWrong : ChangeSpec := { name := "fnExactConstants", fn := fun _ => fun
  | [] => { results := [.lit (.bool false)], args := [] }
  | _ => none }
def FnExactConstantsWrongFalsely : Prop := fnExactConstantsRow.holds Try.pinned (OpenSpec.ofChange fnExactConstantsWrong)

/-- 'laws.FnExactPutHex': WHATEVER THE INPUT: true; the input reads as it did. -/
def fnExactPutHexSpec : ChangeSpec := { name := "fnExactPutHex", fn := fun _ => fun
  | [d] => { results := [.lit (.bool true)], args := [d] }
  | _ => none }
def fnExactPutHexRow : OpenClaim := { program := "ytjjpiioagoeiiaa", sum := "67ecb5106e137edea7a7dbd9ae57c549414d9a9876153af19933bf4d8306387d", func := "loop.example/g00445/laws.FnExactPutHex", spec := "fnExactPutHex", apart := false }
def FnExactPutHexSaid : Prop := fnExactPutHexRow.holds Try.pinned (OpenSpec.ofChange fnExactPutHexSpec)

/-- ITS FALSE NEIGHBOUR: 'it returns false'. Refute it at one input. -/
def fnExactPutHexWrong : ChangeSpec := { name := "fnExactPutHex", fn := fun _ => fun
  | [d] => { results := [.lit (.bool false)], args := [d] }
  | _ => none }
def FnExactPutHexWrongFalsely : Prop := fnExactPutHexRow.holds Try.pinned (OpenSpec.ofChange fnExactPutHexWrong)

/-- 'laws.FnExactPlainOk': WHATEVER THE INPUT: true; the input reads as it did. -/
def fnExactPlainOkSpec : ChangeSpec := { name := "fnExactPlainOk", fn := fun _ => fun
  | [d] => { results := [.lit (.bool true)], args := [d] }
  | _ => none }
def fnExactPlainOkRow : OpenClaim := { program := "ytjjpiioagoeiiaa", sum := "67ecb5106e137edea7a7dbd9ae57c549414d9a9876153af19933bf4d8306387d", func := "loop.example/g00445/laws.FnExactPlainOk", spec := "fnExactPlainOk", unfollowed := true, recurses := true, apart := false }
def FnExactPlainOkSaid : Prop := fnExactPlainOkRow.holds Try.pinned (OpenSpec.ofChange fnExactPlainOkSpec)

/-- ITS FALSE NEIGHBOUR: 'it returns false'. Refute it at one input. -/
def fnExactPlainOkWrong : ChangeSpec := { name := "fnExactPlainOk", fn := fun _ => fun
  | [d] => { results := [.lit (.bool false)], args := [d] }
  | _ => none }
def FnExactPlainOkWrongFalsely : Prop := fnExactPlainOkRow.holds Try.pinned (OpenSpec.ofChange fnExactPlainOkWrong)

/-- 'laws.FnExactPutBase64': WHATEVER THE INPUT: true; the input reads as it did. -/
def fnExactPutBase64Spec : ChangeSpec := { name := "fnExactPutBase64", fn := fun _ => fun
  | [d] => { results := [.lit (.bool true)], args := [d] }
  | _ => none }
def fnExactPutBase64Row : OpenClaim := { program := "ytjjpiioagoeiiaa", sum := "67ecb5106e137edea7a7dbd9ae57c549414d9a9876153af19933bf4d8306387d", func := "loop.example/g00445/laws.FnExactPutBase64", spec := "fnExactPutBase64", apart := false }
def FnExactPutBase64Said : Prop := fnExactPutBase64Row.holds Try.pinned (OpenSpec.ofChange fnExactPutBase64Spec)

/-- ITS FALSE NEIGHBOUR: 'it returns false'. Refute it at one input. -/
def fnExactPutBase64Wrong : ChangeSpec := { name := "fnExactPutBase64", fn := fun _ => fun
  | [d] => { results := [.lit (.bool false)], args := [d] }
  | _ => none }
def FnExactPutBase64WrongFalsely : Prop := fnExactPutBase64Row.holds Try.pinned (OpenSpec.ofChange fnExactPutBase64Wrong)

/-- 'laws.FnExactGetHex': WHATEVER THE INPUT: true; the input reads as it did. -/
def fnExactGetHexSpec : ChangeSpec := { name := "fnExactGetHex", fn := fun _ => fun
  | [d] => { results := [.lit (.bool true)], args := [d] }
  | _ => none }
def fnExactGetHexRow : OpenClaim := { program := "ytjjpiioagoeiiaa", sum := "67ecb5106e137edea7a7dbd9ae57c549414d9a9876153af19933bf4d8306387d", func := "loop.example/g00445/laws.FnExactGetHex", spec := "fnExactGetHex", inPlace := ["internal/bytealg.IndexByteString"], apart := false }
def FnExactGetHexSaid : Prop := fnExactGetHexRow.holds Try.pinned (OpenSpec.ofChange fnExactGetHexSpec)

/-- ITS FALSE NEIGHBOUR: 'it returns false'. Refute it at one input. -/
def fnExactGetHexWrong : ChangeSpec := { name := "fnExactGetHex", fn := fun _ => fun
  | [d] => { results := [.lit (.bool false)], args := [d] }
  | _ => none }
def FnExactGetHexWrongFalsely : Prop := fnExactGetHexRow.holds Try.pinned (OpenSpec.ofChange fnExactGetHexWrong)

/-- 'laws.FnExactQuote': WHATEVER THE INPUT: true; the input reads as it did. -/
def fnExactQuoteSpec : ChangeSpec := { name := "fnExactQuote", fn := fun _ => fun
  | [d] => { results := [.lit (.bool true)], args := [d] }
  | _ => none }
def fnExactQuoteRow : OpenClaim := { program := "ytjjpiioagoeiiaa", sum := "67ecb5106e137edea7a7dbd9ae57c549414d9a9876153af19933bf4d8306387d", func := "loop.example/g00445/laws.FnExactQuote", spec := "fnExactQuote", apart := false }
def FnExactQuoteSaid : Prop := fnExactQuoteRow.holds Try.pinned (OpenSpec.ofChange fnExactQuoteSpec)

/-- ITS FALSE NEIGHBOUR: 'it returns false'. Refute it at one input. -/
def fnExactQuoteWrong : ChangeSpec := { name := "fnExactQuote", fn := fun _ => fun
  | [d] => { results := [.lit (.bool false)], args := [d] }
  | _ => none }
def FnExactQuoteWrongFalsely : Prop := fnExactQuoteRow.holds Try.pinned (OpenSpec.ofChange fnExactQuoteWrong)

/-- 'laws.FnExactSplitKey': WHATEVER THE INPUT: true; the input reads as it did. -/
def fnExactSplitKeySpec : ChangeSpec := { name := "fnExactSplitKey", fn := fun _ => fun
  | [d] => { results := [.lit (.bool true)], args := [d] }
  | _ => none }
def fnExactSplitKeyRow : OpenClaim := { program := "ytjjpiioagoeiiaa", sum := "67ecb5106e137edea7a7dbd9ae57c549414d9a9876153af19933bf4d8306387d", func := "loop.example/g00445/laws.FnExactSplitKey", spec := "fnExactSplitKey", apart := false }
def FnExactSplitKeySaid : Prop := fnExactSplitKeyRow.holds Try.pinned (OpenSpec.ofChange fnExactSplitKeySpec)

/-- ITS FALSE NEIGHBOUR: 'it returns false'. Refute it at one input. -/
def fnExactSplitKeyWrong : ChangeSpec := { name := "fnExactSplitKey", fn := fun _ => fun
  | [d] => { results := [.lit (.bool false)], args := [d] }
  | _ => none }
def FnExactSplitKeyWrongFalsely : Prop := fnExactSplitKeyRow.holds Try.pinned (OpenSpec.ofChange fnExactSplitKeyWrong)

/-- 'laws.FnExactKeyOf': WHATEVER THE INPUT: true; the input reads as it did. -/
def fnExactKeyOfSpec : ChangeSpec := { name := "fnExactKeyOf", fn := fun _ => fun
  | [d] => { results := [.lit (.bool true)], args := [d] }
  | _ => none }
def fnExactKeyOfRow : OpenClaim := { program := "ytjjpiioagoeiiaa", sum := "67ecb5106e137edea7a7dbd9ae57c549414d9a9876153af19933bf4d8306387d", func := "loop.example/g00445/laws.FnExactKeyOf", spec := "fnExactKeyOf", apart := false }
def FnExactKeyOfSaid : Prop := fnExactKeyOfRow.holds Try.pinned (OpenSpec.ofChange fnExactKeyOfSpec)

/-- ITS FALSE NEIGHBOUR: 'it returns false'. Refute it at one input. -/
def fnExactKeyOfWrong : ChangeSpec := { name := "fnExactKeyOf", fn := fun _ => fun
  | [d] => { results := [.lit (.bool false)], args := [d] }
  | _ => none }
def FnExactKeyOfWrongFalsely : Prop := fnExactKeyOfRow.holds Try.pinned (OpenSpec.ofChange fnExactKeyOfWrong)

/-- 'laws.FnExactUnquote': WHATEVER THE INPUT: true; the input reads as it did. -/
def fnExactUnquoteSpec : ChangeSpec := { name := "fnExactUnquote", fn := fun _ => fun
  | [d1, d2] => { results := [.lit (.bool true)], args := [d1, d2] }
  | _ => none }
def fnExactUnquoteRow : OpenClaim := { program := "ytjjpiioagoeiiaa", sum := "67ecb5106e137edea7a7dbd9ae57c549414d9a9876153af19933bf4d8306387d", func := "loop.example/g00445/laws.FnExactUnquote", spec := "fnExactUnquote", inPlace := ["internal/bytealg.IndexByteString"], apart := false }
def FnExactUnquoteSaid : Prop := fnExactUnquoteRow.holds Try.pinned (OpenSpec.ofChange fnExactUnquoteSpec)

/-- ITS FALSE NEIGHBOUR: 'it returns false'. Refute it at one input. -/
def fnExactUnquoteWrong : ChangeSpec := { name := "fnExactUnquote", fn := fun _ => fun
  | [d1, d2] => { results := [.lit (.bool false)], args := [d1, d2] }
  | _ => none }
def FnExactUnquoteWrongFalsely : Prop := fnExactUnquoteRow.holds Try.pinned (OpenSpec.ofChange fnExactUnquoteWrong)

/-- 'laws.FnExactPlace': WHATEVER THE INPUT: true; the input reads as it did. -/
def fnExactPlaceSpec : ChangeSpec := { name := "fnExactPlace", fn := fun _ => fun
  | [d1, d2] => { results := [.lit (.bool true)], args := [d1, d2] }
  | _ => none }
def fnExactPlaceRow : OpenClaim := { program := "ytjjpiioagoeiiaa", sum := "67ecb5106e137edea7a7dbd9ae57c549414d9a9876153af19933bf4d8306387d", func := "loop.example/g00445/laws.FnExactPlace", spec := "fnExactPlace", inPlace := ["internal/bytealg.CountString", "internal/bytealg.IndexByteString", "internal/bytealg.IndexString"], named := ["internal/bytealg.MaxLen"], apart := false }
def FnExactPlaceSaid : Prop := fnExactPlaceRow.holds Try.pinned (OpenSpec.ofChange fnExactPlaceSpec)

/-- ITS FALSE NEIGHBOUR: 'it returns false'. Refute it at one input. -/
def fnExactPlaceWrong : ChangeSpec := { name := "fnExactPlace", fn := fun _ => fun
  | [d1, d2] => { results := [.lit (.bool false)], args := [d1, d2] }
  | _ => none }
def FnExactPlaceWrongFalsely : Prop := fnExactPlaceRow.holds Try.pinned (OpenSpec.ofChange fnExactPlaceWrong)

/- THE SECOND FORM. 'bulk': how many values and letters a reading holds, each counted each time it is reached (what is shared counts as often as it is met; a slice's spare places count too). A statement '..UptoSaid' is the law's where the arguments, and the package variables that the reading takes, are together of bulk at most 1048576: NARROWER than '..Said'. Prove '..Said' where nothing that the law and all that it calls make is longer than what came in: it says more and counts as full. Else prove '..UptoSaid'. A law counts once. -/
mutual
def uptoBulk {H : Type} : DataW H → Nat
  | .lit (.string bytes) => bytes.length + 1
  | .lit _ => 1
  | .nil => 1
  | .ptr d => uptoBulk d + 1
  | .slice elems spare => uptoBulkAll elems + uptoBulkAll spare + 1
  | .agg parts => uptoBulkAll parts + 1
  | .iface _ d => uptoBulk d + 1
  | .map entries => uptoBulkEntries entries + 1
  | .held _ => 1
def uptoBulkAll {H : Type} : List (DataW H) → Nat
  | [] => 0
  | d :: r => uptoBulk d + uptoBulkAll r
def uptoBulkEntries {H : Type} : List (Lit × DataW H) → Nat
  | [] => 0
  | x :: r => uptoBulkEntry x + uptoBulkEntries r
def uptoBulkEntry {H : Type} : Lit × DataW H → Nat
  | (.string bytes, d) => bytes.length + uptoBulk d + 1
  | (_, d) => uptoBulk d + 1
 end
def uptoSmall : (H : Type) → List (DataW H) → Bool := fun _ ds => decide (uptoBulkAll ds ≤ 1048576)
def OpenSpec.upto (s : _root_.Go.ChangeSpec) : _root_.Go.OpenSpec := { _root_.Go.OpenSpec.ofChange s with cond := some uptoSmall }

/-- 'laws.FnExactConstants', WHERE WHAT IT READS IS OF BULK AT MOST 1048576: true; the input reads as it did. -/
def fnExactConstantsUptoRow : OpenClaim := { program := "ytjjpiioagoeiiaa", sum := "67ecb5106e137edea7a7dbd9ae57c549414d9a9876153af19933bf4d8306387d", func := "loop.example/g00445/laws.FnExactConstants", spec := "fnExactConstants", apart := false, narrowed := true }
def FnExactConstantsUptoSaid : Prop := fnExactConstantsUptoRow.holds Try.pinned (OpenSpec.upto fnExactConstantsSpec)

/-- 'laws.FnExactPutHex', WHERE WHAT IT READS IS OF BULK AT MOST 1048576: true; the input reads as it did. -/
def fnExactPutHexUptoRow : OpenClaim := { program := "ytjjpiioagoeiiaa", sum := "67ecb5106e137edea7a7dbd9ae57c549414d9a9876153af19933bf4d8306387d", func := "loop.example/g00445/laws.FnExactPutHex", spec := "fnExactPutHex", apart := false, narrowed := true }
def FnExactPutHexUptoSaid : Prop := fnExactPutHexUptoRow.holds Try.pinned (OpenSpec.upto fnExactPutHexSpec)

/-- 'laws.FnExactPlainOk', WHERE WHAT IT READS IS OF BULK AT MOST 1048576: true; the input reads as it did. -/
def fnExactPlainOkUptoRow : OpenClaim := { program := "ytjjpiioagoeiiaa", sum := "67ecb5106e137edea7a7dbd9ae57c549414d9a9876153af19933bf4d8306387d", func := "loop.example/g00445/laws.FnExactPlainOk", spec := "fnExactPlainOk", unfollowed := true, recurses := true, apart := false, narrowed := true }
def FnExactPlainOkUptoSaid : Prop := fnExactPlainOkUptoRow.holds Try.pinned (OpenSpec.upto fnExactPlainOkSpec)

/-- 'laws.FnExactPutBase64', WHERE WHAT IT READS IS OF BULK AT MOST 1048576: true; the input reads as it did. -/
def fnExactPutBase64UptoRow : OpenClaim := { program := "ytjjpiioagoeiiaa", sum := "67ecb5106e137edea7a7dbd9ae57c549414d9a9876153af19933bf4d8306387d", func := "loop.example/g00445/laws.FnExactPutBase64", spec := "fnExactPutBase64", apart := false, narrowed := true }
def FnExactPutBase64UptoSaid : Prop := fnExactPutBase64UptoRow.holds Try.pinned (OpenSpec.upto fnExactPutBase64Spec)

/-- 'laws.FnExactGetHex', WHERE WHAT IT READS IS OF BULK AT MOST 1048576: true; the input reads as it did. -/
def fnExactGetHexUptoRow : OpenClaim := { program := "ytjjpiioagoeiiaa", sum := "67ecb5106e137edea7a7dbd9ae57c549414d9a9876153af19933bf4d8306387d", func := "loop.example/g00445/laws.FnExactGetHex", spec := "fnExactGetHex", inPlace := ["internal/bytealg.IndexByteString"], apart := false, narrowed := true }
def FnExactGetHexUptoSaid : Prop := fnExactGetHexUptoRow.holds Try.pinned (OpenSpec.upto fnExactGetHexSpec)

/-- 'laws.FnExactQuote', WHERE WHAT IT READS IS OF BULK AT MOST 1048576: true; the input reads as it did. -/
def fnExactQuoteUptoRow : OpenClaim := { program := "ytjjpiioagoeiiaa", sum := "67ecb5106e137edea7a7dbd9ae57c549414d9a9876153af19933bf4d8306387d", func := "loop.example/g00445/laws.FnExactQuote", spec := "fnExactQuote", apart := false, narrowed := true }
def FnExactQuoteUptoSaid : Prop := fnExactQuoteUptoRow.holds Try.pinned (OpenSpec.upto fnExactQuoteSpec)

/-- 'laws.FnExactSplitKey', WHERE WHAT IT READS IS OF BULK AT MOST 1048576: true; the input reads as it did. -/
def fnExactSplitKeyUptoRow : OpenClaim := { program := "ytjjpiioagoeiiaa", sum := "67ecb5106e137edea7a7dbd9ae57c549414d9a9876153af19933bf4d8306387d", func := "loop.example/g00445/laws.FnExactSplitKey", spec := "fnExactSplitKey", apart := false, narrowed := true }
def FnExactSplitKeyUptoSaid : Prop := fnExactSplitKeyUptoRow.holds Try.pinned (OpenSpec.upto fnExactSplitKeySpec)

/-- 'laws.FnExactKeyOf', WHERE WHAT IT READS IS OF BULK AT MOST 1048576: true; the input reads as it did. -/
def fnExactKeyOfUptoRow : OpenClaim := { program := "ytjjpiioagoeiiaa", sum := "67ecb5106e137edea7a7dbd9ae57c549414d9a9876153af19933bf4d8306387d", func := "loop.example/g00445/laws.FnExactKeyOf", spec := "fnExactKeyOf", apart := false, narrowed := true }
def FnExactKeyOfUptoSaid : Prop := fnExactKeyOfUptoRow.holds Try.pinned (OpenSpec.upto fnExactKeyOfSpec)

/-- 'laws.FnExactUnquote', WHERE WHAT IT READS IS OF BULK AT MOST 1048576: true; the input reads as it did. -/
def fnExactUnquoteUptoRow : OpenClaim := { program := "ytjjpiioagoeiiaa", sum := "67ecb5106e137edea7a7dbd9ae57c549414d9a9876153af19933bf4d8306387d", func := "loop.example/g00445/laws.FnExactUnquote", spec := "fnExactUnquote", inPlace := ["internal/bytealg.IndexByteString"], apart := false, narrowed := true }
def FnExactUnquoteUptoSaid : Prop := fnExactUnquoteUptoRow.holds Try.pinned (OpenSpec.upto fnExactUnquoteSpec)

/-- 'laws.FnExactPlace', WHERE WHAT IT READS IS OF BULK AT MOST 1048576: true; the input reads as it did. -/
def fnExactPlaceUptoRow : OpenClaim := { program := "ytjjpiioagoeiiaa", sum := "67ecb5106e137edea7a7dbd9ae57c549414d9a9876153af19933bf4d8306387d", func := "loop.example/g00445/laws.FnExactPlace", spec := "fnExactPlace", inPlace := ["internal/bytealg.CountString", "internal/bytealg.IndexByteString", "internal/bytealg.IndexString"], named := ["internal/bytealg.MaxLen"], apart := false, narrowed := true }
def FnExactPlaceUptoSaid : Prop := fnExactPlaceUptoRow.holds Try.pinned (OpenSpec.upto fnExactPlaceSpec)

end Rows
end Go.Proofs.Ytjjpiioagoeiiaa
