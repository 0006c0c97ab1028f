/-
  No cell of these rows narrows 'for every input' (looked for: loops, veiled, ifaces, maps, wideKeys, modest, calm, conditions, laid).
  DERIVED. THE GIVEN ROWS OF THIS SEAT. 13 by the template 'for every input the law returns true; each argument reads behind the call as it read before'; 0 by the template 'total and deterministic' (their statements: YtbfefjlilmoigaaTotals.lean).
  GIVEN WITH THE SEED: the statements are not yours to turn. If you find one false, say at which input.
  Laid BY PROGRAM, IN A SANDBOX (cutbox-rows.mjs): the forced cells as the released guide's own fill.sh prints them over the translation b3a420f4f789aa1f… (all of the seat's roots in one cut). By AI agents, Wed Nov 11 2026. No macro, syntax, notation, axiom, sorry.
-/
import Derived.Test.YtbfefjlilmoigaaChecked
import GoSem.Claim
import GoSem.ClaimJoined
import GoSem.ClaimMapViews
import Derived.JoinedTies
import Derived.KernelRfl
namespace Go.Proofs.Ytbfefjlilmoigaa
/- THE CELL 'sum', in the pinned program and in every row, IS THE sha256 OF THE DUMP (.gsa) THAT YtbfefjlilmoigaaProg.lean LOADS. Nothing in Lean hashes anything: it is a label: what it is worth is what the hold of that sum in a sandbox is worth. -/
noncomputable def Try.pinned : Pinned := { name := "ytbfefjlilmoigaa", sum := "b3a420f4f789aa1fe5e1bf3ee7ceb733cd6d1a671a97022cf7f49a83bfc3167c", checked := Try.checked }
namespace Rows
def none {H : Type} : Left H := { results := [], args := [] }

/-- 'gerundlaw04.CrcSums': WHATEVER THE INPUT: true; the input reads as it did. -/
def crcSumsSpec : ChangeSpec := { name := "crcSums", fn := fun _ => fun
  | [d1, d2] => { results := [.lit (.bool true)], args := [d1, d2] }
  | _ => none }
def crcSumsRow : OpenClaim := { program := "ytbfefjlilmoigaa", sum := "b3a420f4f789aa1fe5e1bf3ee7ceb733cd6d1a671a97022cf7f49a83bfc3167c", func := "gerund/gerundlaw04.CrcSums", spec := "crcSums", apart := false }
def CrcSumsSaid : Prop := crcSumsRow.holds Try.pinned (OpenSpec.ofChange crcSumsSpec)

/-- ITS FALSE NEIGHBOUR: 'it returns false'. Refute it at one input. -/
def crcSumsWrong : ChangeSpec := { name := "crcSums", fn := fun _ => fun
  | [d1, d2] => { results := [.lit (.bool false)], args := [d1, d2] }
  | _ => none }
def CrcSumsWrongFalsely : Prop := crcSumsRow.holds Try.pinned (OpenSpec.ofChange crcSumsWrong)

/-- 'gerundlaw04.CrcFrames': WHATEVER THE INPUT: true; the input reads as it did. -/
def crcFramesSpec : ChangeSpec := { name := "crcFrames", fn := fun _ => fun
  | [d] => { results := [.lit (.bool true)], args := [d] }
  | _ => none }
def crcFramesRow : OpenClaim := { program := "ytbfefjlilmoigaa", sum := "b3a420f4f789aa1fe5e1bf3ee7ceb733cd6d1a671a97022cf7f49a83bfc3167c", func := "gerund/gerundlaw04.CrcFrames", spec := "crcFrames", apart := false }
def CrcFramesSaid : Prop := crcFramesRow.holds Try.pinned (OpenSpec.ofChange crcFramesSpec)

/-- ITS FALSE NEIGHBOUR: 'it returns false'. Refute it at one input. -/
def crcFramesWrong : ChangeSpec := { name := "crcFrames", fn := fun _ => fun
  | [d] => { results := [.lit (.bool false)], args := [d] }
  | _ => none }
def CrcFramesWrongFalsely : Prop := crcFramesRow.holds Try.pinned (OpenSpec.ofChange crcFramesWrong)

/-- 'gerundlaw04.CrcParts': WHATEVER THE INPUT: true; the input reads as it did. -/
def crcPartsSpec : ChangeSpec := { name := "crcParts", fn := fun _ => fun
  | [d1, d2, d3] => { results := [.lit (.bool true)], args := [d1, d2, d3] }
  | _ => none }
def crcPartsRow : OpenClaim := { program := "ytbfefjlilmoigaa", sum := "b3a420f4f789aa1fe5e1bf3ee7ceb733cd6d1a671a97022cf7f49a83bfc3167c", func := "gerund/gerundlaw04.CrcParts", spec := "crcParts", apart := false }
def CrcPartsSaid : Prop := crcPartsRow.holds Try.pinned (OpenSpec.ofChange crcPartsSpec)

/-- ITS FALSE NEIGHBOUR: 'it returns false'. Refute it at one input. -/
def crcPartsWrong : ChangeSpec := { name := "crcParts", fn := fun _ => fun
  | [d1, d2, d3] => { results := [.lit (.bool false)], args := [d1, d2, d3] }
  | _ => none }
def CrcPartsWrongFalsely : Prop := crcPartsRow.holds Try.pinned (OpenSpec.ofChange crcPartsWrong)

/-- 'gerundlaw04.CrcTells': WHATEVER THE INPUT: true; the input reads as it did. -/
def crcTellsSpec : ChangeSpec := { name := "crcTells", fn := fun _ => fun
  | [d1, d2, d3] => { results := [.lit (.bool true)], args := [d1, d2, d3] }
  | _ => none }
def crcTellsRow : OpenClaim := { program := "ytbfefjlilmoigaa", sum := "b3a420f4f789aa1fe5e1bf3ee7ceb733cd6d1a671a97022cf7f49a83bfc3167c", func := "gerund/gerundlaw04.CrcTells", spec := "crcTells", apart := false }
def CrcTellsSaid : Prop := crcTellsRow.holds Try.pinned (OpenSpec.ofChange crcTellsSpec)

/-- ITS FALSE NEIGHBOUR: 'it returns false'. Refute it at one input. -/
def crcTellsWrong : ChangeSpec := { name := "crcTells", fn := fun _ => fun
  | [d1, d2, d3] => { results := [.lit (.bool false)], args := [d1, d2, d3] }
  | _ => none }
def CrcTellsWrongFalsely : Prop := crcTellsRow.holds Try.pinned (OpenSpec.ofChange crcTellsWrong)

/-- 'gerundlaw29.CorpusWhole': WHATEVER THE INPUT: true; the input reads as it did. -/
def corpusWholeSpec : ChangeSpec := { name := "corpusWhole", fn := fun _ => fun
  | [d1, d2] => { results := [.lit (.bool true)], args := [d1, d2] }
  | _ => none }
def corpusWholeRow : OpenClaim := { program := "ytbfefjlilmoigaa", sum := "b3a420f4f789aa1fe5e1bf3ee7ceb733cd6d1a671a97022cf7f49a83bfc3167c", func := "gerund/gerundlaw29.CorpusWhole", spec := "corpusWhole", unfollowed := true, recurses := true, apart := false }
def CorpusWholeSaid : Prop := corpusWholeRow.holds Try.pinned (OpenSpec.ofChange corpusWholeSpec)

/-- ITS FALSE NEIGHBOUR: 'it returns false'. Refute it at one input. -/
def corpusWholeWrong : ChangeSpec := { name := "corpusWhole", fn := fun _ => fun
  | [d1, d2] => { results := [.lit (.bool false)], args := [d1, d2] }
  | _ => none }
def CorpusWholeWrongFalsely : Prop := corpusWholeRow.holds Try.pinned (OpenSpec.ofChange corpusWholeWrong)

/-- 'gerundlaw05.CodeNumbers': WHATEVER THE INPUT: true; the input reads as it did. -/
def codeNumbersSpec : ChangeSpec := { name := "codeNumbers", fn := fun _ => fun
  | [d1, d2, d3] => { results := [.lit (.bool true)], args := [d1, d2, d3] }
  | _ => none }
def codeNumbersRow : OpenClaim := { program := "ytbfefjlilmoigaa", sum := "b3a420f4f789aa1fe5e1bf3ee7ceb733cd6d1a671a97022cf7f49a83bfc3167c", func := "gerund/gerundlaw05.CodeNumbers", spec := "codeNumbers", apart := false }
def CodeNumbersSaid : Prop := codeNumbersRow.holds Try.pinned (OpenSpec.ofChange codeNumbersSpec)

/-- ITS FALSE NEIGHBOUR: 'it returns false'. Refute it at one input. -/
def codeNumbersWrong : ChangeSpec := { name := "codeNumbers", fn := fun _ => fun
  | [d1, d2, d3] => { results := [.lit (.bool false)], args := [d1, d2, d3] }
  | _ => none }
def CodeNumbersWrongFalsely : Prop := codeNumbersRow.holds Try.pinned (OpenSpec.ofChange codeNumbersWrong)

/-- 'gerundlaw29.CorpusTells': WHATEVER THE INPUT: true; the input reads as it did. -/
def corpusTellsSpec : ChangeSpec := { name := "corpusTells", fn := fun _ => fun
  | [d1, d2, d3] => { results := [.lit (.bool true)], args := [d1, d2, d3] }
  | _ => none }
def corpusTellsRow : OpenClaim := { program := "ytbfefjlilmoigaa", sum := "b3a420f4f789aa1fe5e1bf3ee7ceb733cd6d1a671a97022cf7f49a83bfc3167c", func := "gerund/gerundlaw29.CorpusTells", spec := "corpusTells", unfollowed := true, recurses := true, apart := false }
def CorpusTellsSaid : Prop := corpusTellsRow.holds Try.pinned (OpenSpec.ofChange corpusTellsSpec)

/-- ITS FALSE NEIGHBOUR: 'it returns false'. Refute it at one input. -/
def corpusTellsWrong : ChangeSpec := { name := "corpusTells", fn := fun _ => fun
  | [d1, d2, d3] => { results := [.lit (.bool false)], args := [d1, d2, d3] }
  | _ => none }
def CorpusTellsWrongFalsely : Prop := corpusTellsRow.holds Try.pinned (OpenSpec.ofChange corpusTellsWrong)

/-- 'gerundlaw05.CodeLists': WHATEVER THE INPUT: true; the input reads as it did. -/
def codeListsSpec : ChangeSpec := { name := "codeLists", fn := fun _ => fun
  | [d1, d2, d3] => { results := [.lit (.bool true)], args := [d1, d2, d3] }
  | _ => none }
def codeListsRow : OpenClaim := { program := "ytbfefjlilmoigaa", sum := "b3a420f4f789aa1fe5e1bf3ee7ceb733cd6d1a671a97022cf7f49a83bfc3167c", func := "gerund/gerundlaw05.CodeLists", spec := "codeLists", apart := false }
def CodeListsSaid : Prop := codeListsRow.holds Try.pinned (OpenSpec.ofChange codeListsSpec)

/-- ITS FALSE NEIGHBOUR: 'it returns false'. Refute it at one input. -/
def codeListsWrong : ChangeSpec := { name := "codeLists", fn := fun _ => fun
  | [d1, d2, d3] => { results := [.lit (.bool false)], args := [d1, d2, d3] }
  | _ => none }
def CodeListsWrongFalsely : Prop := codeListsRow.holds Try.pinned (OpenSpec.ofChange codeListsWrong)

/-- 'gerundlaw05.CodeBack': WHATEVER THE INPUT: true; the input reads as it did. -/
def codeBackSpec : ChangeSpec := { name := "codeBack", fn := fun _ => fun
  | [d1, d2, d3] => { results := [.lit (.bool true)], args := [d1, d2, d3] }
  | _ => none }
def codeBackRow : OpenClaim := { program := "ytbfefjlilmoigaa", sum := "b3a420f4f789aa1fe5e1bf3ee7ceb733cd6d1a671a97022cf7f49a83bfc3167c", func := "gerund/gerundlaw05.CodeBack", spec := "codeBack", apart := false }
def CodeBackSaid : Prop := codeBackRow.holds Try.pinned (OpenSpec.ofChange codeBackSpec)

/-- ITS FALSE NEIGHBOUR: 'it returns false'. Refute it at one input. -/
def codeBackWrong : ChangeSpec := { name := "codeBack", fn := fun _ => fun
  | [d1, d2, d3] => { results := [.lit (.bool false)], args := [d1, d2, d3] }
  | _ => none }
def CodeBackWrongFalsely : Prop := codeBackRow.holds Try.pinned (OpenSpec.ofChange codeBackWrong)

/-- 'gerundlaw05.CodeWhole': WHATEVER THE INPUT: true; the input reads as it did. -/
def codeWholeSpec : ChangeSpec := { name := "codeWhole", fn := fun _ => fun
  | [d1, d2] => { results := [.lit (.bool true)], args := [d1, d2] }
  | _ => none }
def codeWholeRow : OpenClaim := { program := "ytbfefjlilmoigaa", sum := "b3a420f4f789aa1fe5e1bf3ee7ceb733cd6d1a671a97022cf7f49a83bfc3167c", func := "gerund/gerundlaw05.CodeWhole", spec := "codeWhole", apart := false }
def CodeWholeSaid : Prop := codeWholeRow.holds Try.pinned (OpenSpec.ofChange codeWholeSpec)

/-- ITS FALSE NEIGHBOUR: 'it returns false'. Refute it at one input. -/
def codeWholeWrong : ChangeSpec := { name := "codeWhole", fn := fun _ => fun
  | [d1, d2] => { results := [.lit (.bool false)], args := [d1, d2] }
  | _ => none }
def CodeWholeWrongFalsely : Prop := codeWholeRow.holds Try.pinned (OpenSpec.ofChange codeWholeWrong)

/-- 'gerundlaw29.CorpusEncodes': WHATEVER THE INPUT: true; the input reads as it did. -/
def corpusEncodesSpec : ChangeSpec := { name := "corpusEncodes", fn := fun _ => fun
  | [d1, d2] => { results := [.lit (.bool true)], args := [d1, d2] }
  | _ => none }
def corpusEncodesRow : OpenClaim := { program := "ytbfefjlilmoigaa", sum := "b3a420f4f789aa1fe5e1bf3ee7ceb733cd6d1a671a97022cf7f49a83bfc3167c", func := "gerund/gerundlaw29.CorpusEncodes", spec := "corpusEncodes", unfollowed := true, recurses := true, apart := false }
def CorpusEncodesSaid : Prop := corpusEncodesRow.holds Try.pinned (OpenSpec.ofChange corpusEncodesSpec)

/-- ITS FALSE NEIGHBOUR: 'it returns false'. Refute it at one input. -/
def corpusEncodesWrong : ChangeSpec := { name := "corpusEncodes", fn := fun _ => fun
  | [d1, d2] => { results := [.lit (.bool false)], args := [d1, d2] }
  | _ => none }
def CorpusEncodesWrongFalsely : Prop := corpusEncodesRow.holds Try.pinned (OpenSpec.ofChange corpusEncodesWrong)

/-- 'gerundlaw29.CorpusDecodes': WHATEVER THE INPUT: true; the input reads as it did. -/
def corpusDecodesSpec : ChangeSpec := { name := "corpusDecodes", fn := fun _ => fun
  | [d1, d2] => { results := [.lit (.bool true)], args := [d1, d2] }
  | _ => none }
def corpusDecodesRow : OpenClaim := { program := "ytbfefjlilmoigaa", sum := "b3a420f4f789aa1fe5e1bf3ee7ceb733cd6d1a671a97022cf7f49a83bfc3167c", func := "gerund/gerundlaw29.CorpusDecodes", spec := "corpusDecodes", unfollowed := true, recurses := true, apart := false }
def CorpusDecodesSaid : Prop := corpusDecodesRow.holds Try.pinned (OpenSpec.ofChange corpusDecodesSpec)

/-- ITS FALSE NEIGHBOUR: 'it returns false'. Refute it at one input. -/
def corpusDecodesWrong : ChangeSpec := { name := "corpusDecodes", fn := fun _ => fun
  | [d1, d2] => { results := [.lit (.bool false)], args := [d1, d2] }
  | _ => none }
def CorpusDecodesWrongFalsely : Prop := corpusDecodesRow.holds Try.pinned (OpenSpec.ofChange corpusDecodesWrong)

/-- 'gerundlaw29.CorpusBack': WHATEVER THE INPUT: true; the input reads as it did. -/
def corpusBackSpec : ChangeSpec := { name := "corpusBack", fn := fun _ => fun
  | [d] => { results := [.lit (.bool true)], args := [d] }
  | _ => none }
def corpusBackRow : OpenClaim := { program := "ytbfefjlilmoigaa", sum := "b3a420f4f789aa1fe5e1bf3ee7ceb733cd6d1a671a97022cf7f49a83bfc3167c", func := "gerund/gerundlaw29.CorpusBack", spec := "corpusBack", unfollowed := true, recurses := true, apart := false }
def CorpusBackSaid : Prop := corpusBackRow.holds Try.pinned (OpenSpec.ofChange corpusBackSpec)

/-- ITS FALSE NEIGHBOUR: 'it returns false'. Refute it at one input. -/
def corpusBackWrong : ChangeSpec := { name := "corpusBack", fn := fun _ => fun
  | [d] => { results := [.lit (.bool false)], args := [d] }
  | _ => none }
def CorpusBackWrongFalsely : Prop := corpusBackRow.holds Try.pinned (OpenSpec.ofChange corpusBackWrong)

/- THE SECOND FORM. 'bulk': how many values and letters a reading holds, each counted each time it is reached (what is shared counts as often as it is met; a slice's spare places count too). A statement '..UptoSaid' is the law's where the arguments, and the package variables that the reading takes, are together of bulk at most 1048576: NARROWER than '..Said'. Prove '..Said' where nothing that the law and all that it calls make is longer than what came in: it says more and counts as full. Else prove '..UptoSaid'. A law counts once. -/
mutual
def uptoBulk {H : Type} : DataW H → Nat
  | .lit (.string bytes) => bytes.length + 1
  | .lit _ => 1
  | .nil => 1
  | .ptr d => uptoBulk d + 1
  | .slice elems spare => uptoBulkAll elems + uptoBulkAll spare + 1
  | .agg parts => uptoBulkAll parts + 1
  | .iface _ d => uptoBulk d + 1
  | .map entries => uptoBulkEntries entries + 1
  | .held _ => 1
def uptoBulkAll {H : Type} : List (DataW H) → Nat
  | [] => 0
  | d :: r => uptoBulk d + uptoBulkAll r
def uptoBulkEntries {H : Type} : List (Lit × DataW H) → Nat
  | [] => 0
  | x :: r => uptoBulkEntry x + uptoBulkEntries r
def uptoBulkEntry {H : Type} : Lit × DataW H → Nat
  | (.string bytes, d) => bytes.length + uptoBulk d + 1
  | (_, d) => uptoBulk d + 1
 end
def uptoSmall : (H : Type) → List (DataW H) → Bool := fun _ ds => decide (uptoBulkAll ds ≤ 1048576)
def OpenSpec.upto (s : _root_.Go.ChangeSpec) : _root_.Go.OpenSpec := { _root_.Go.OpenSpec.ofChange s with cond := some uptoSmall }

/-- 'gerundlaw04.CrcSums', WHERE WHAT IT READS IS OF BULK AT MOST 1048576: true; the input reads as it did. -/
def crcSumsUptoRow : OpenClaim := { program := "ytbfefjlilmoigaa", sum := "b3a420f4f789aa1fe5e1bf3ee7ceb733cd6d1a671a97022cf7f49a83bfc3167c", func := "gerund/gerundlaw04.CrcSums", spec := "crcSums", apart := false, narrowed := true }
def CrcSumsUptoSaid : Prop := crcSumsUptoRow.holds Try.pinned (OpenSpec.upto crcSumsSpec)

/-- 'gerundlaw04.CrcFrames', WHERE WHAT IT READS IS OF BULK AT MOST 1048576: true; the input reads as it did. -/
def crcFramesUptoRow : OpenClaim := { program := "ytbfefjlilmoigaa", sum := "b3a420f4f789aa1fe5e1bf3ee7ceb733cd6d1a671a97022cf7f49a83bfc3167c", func := "gerund/gerundlaw04.CrcFrames", spec := "crcFrames", apart := false, narrowed := true }
def CrcFramesUptoSaid : Prop := crcFramesUptoRow.holds Try.pinned (OpenSpec.upto crcFramesSpec)

/-- 'gerundlaw04.CrcParts', WHERE WHAT IT READS IS OF BULK AT MOST 1048576: true; the input reads as it did. -/
def crcPartsUptoRow : OpenClaim := { program := "ytbfefjlilmoigaa", sum := "b3a420f4f789aa1fe5e1bf3ee7ceb733cd6d1a671a97022cf7f49a83bfc3167c", func := "gerund/gerundlaw04.CrcParts", spec := "crcParts", apart := false, narrowed := true }
def CrcPartsUptoSaid : Prop := crcPartsUptoRow.holds Try.pinned (OpenSpec.upto crcPartsSpec)

/-- 'gerundlaw04.CrcTells', WHERE WHAT IT READS IS OF BULK AT MOST 1048576: true; the input reads as it did. -/
def crcTellsUptoRow : OpenClaim := { program := "ytbfefjlilmoigaa", sum := "b3a420f4f789aa1fe5e1bf3ee7ceb733cd6d1a671a97022cf7f49a83bfc3167c", func := "gerund/gerundlaw04.CrcTells", spec := "crcTells", apart := false, narrowed := true }
def CrcTellsUptoSaid : Prop := crcTellsUptoRow.holds Try.pinned (OpenSpec.upto crcTellsSpec)

/-- 'gerundlaw29.CorpusWhole', WHERE WHAT IT READS IS OF BULK AT MOST 1048576: true; the input reads as it did. -/
def corpusWholeUptoRow : OpenClaim := { program := "ytbfefjlilmoigaa", sum := "b3a420f4f789aa1fe5e1bf3ee7ceb733cd6d1a671a97022cf7f49a83bfc3167c", func := "gerund/gerundlaw29.CorpusWhole", spec := "corpusWhole", unfollowed := true, recurses := true, apart := false, narrowed := true }
def CorpusWholeUptoSaid : Prop := corpusWholeUptoRow.holds Try.pinned (OpenSpec.upto corpusWholeSpec)

/-- 'gerundlaw05.CodeNumbers', WHERE WHAT IT READS IS OF BULK AT MOST 1048576: true; the input reads as it did. -/
def codeNumbersUptoRow : OpenClaim := { program := "ytbfefjlilmoigaa", sum := "b3a420f4f789aa1fe5e1bf3ee7ceb733cd6d1a671a97022cf7f49a83bfc3167c", func := "gerund/gerundlaw05.CodeNumbers", spec := "codeNumbers", apart := false, narrowed := true }
def CodeNumbersUptoSaid : Prop := codeNumbersUptoRow.holds Try.pinned (OpenSpec.upto codeNumbersSpec)

/-- 'gerundlaw29.CorpusTells', WHERE WHAT IT READS IS OF BULK AT MOST 1048576: true; the input reads as it did. -/
def corpusTellsUptoRow : OpenClaim := { program := "ytbfefjlilmoigaa", sum := "b3a420f4f789aa1fe5e1bf3ee7ceb733cd6d1a671a97022cf7f49a83bfc3167c", func := "gerund/gerundlaw29.CorpusTells", spec := "corpusTells", unfollowed := true, recurses := true, apart := false, narrowed := true }
def CorpusTellsUptoSaid : Prop := corpusTellsUptoRow.holds Try.pinned (OpenSpec.upto corpusTellsSpec)

/-- 'gerundlaw05.CodeLists', WHERE WHAT IT READS IS OF BULK AT MOST 1048576: true; the input reads as it did. -/
def codeListsUptoRow : OpenClaim := { program := "ytbfefjlilmoigaa", sum := "b3a420f4f789aa1fe5e1bf3ee7ceb733cd6d1a671a97022cf7f49a83bfc3167c", func := "gerund/gerundlaw05.CodeLists", spec := "codeLists", apart := false, narrowed := true }
def CodeListsUptoSaid : Prop := codeListsUptoRow.holds Try.pinned (OpenSpec.upto codeListsSpec)

/-- 'gerundlaw05.CodeBack', WHERE WHAT IT READS IS OF BULK AT MOST 1048576: true; the input reads as it did. -/
def codeBackUptoRow : OpenClaim := { program := "ytbfefjlilmoigaa", sum := "b3a420f4f789aa1fe5e1bf3ee7ceb733cd6d1a671a97022cf7f49a83bfc3167c", func := "gerund/gerundlaw05.CodeBack", spec := "codeBack", apart := false, narrowed := true }
def CodeBackUptoSaid : Prop := codeBackUptoRow.holds Try.pinned (OpenSpec.upto codeBackSpec)

/-- 'gerundlaw05.CodeWhole', WHERE WHAT IT READS IS OF BULK AT MOST 1048576: true; the input reads as it did. -/
def codeWholeUptoRow : OpenClaim := { program := "ytbfefjlilmoigaa", sum := "b3a420f4f789aa1fe5e1bf3ee7ceb733cd6d1a671a97022cf7f49a83bfc3167c", func := "gerund/gerundlaw05.CodeWhole", spec := "codeWhole", apart := false, narrowed := true }
def CodeWholeUptoSaid : Prop := codeWholeUptoRow.holds Try.pinned (OpenSpec.upto codeWholeSpec)

/-- 'gerundlaw29.CorpusEncodes', WHERE WHAT IT READS IS OF BULK AT MOST 1048576: true; the input reads as it did. -/
def corpusEncodesUptoRow : OpenClaim := { program := "ytbfefjlilmoigaa", sum := "b3a420f4f789aa1fe5e1bf3ee7ceb733cd6d1a671a97022cf7f49a83bfc3167c", func := "gerund/gerundlaw29.CorpusEncodes", spec := "corpusEncodes", unfollowed := true, recurses := true, apart := false, narrowed := true }
def CorpusEncodesUptoSaid : Prop := corpusEncodesUptoRow.holds Try.pinned (OpenSpec.upto corpusEncodesSpec)

/-- 'gerundlaw29.CorpusDecodes', WHERE WHAT IT READS IS OF BULK AT MOST 1048576: true; the input reads as it did. -/
def corpusDecodesUptoRow : OpenClaim := { program := "ytbfefjlilmoigaa", sum := "b3a420f4f789aa1fe5e1bf3ee7ceb733cd6d1a671a97022cf7f49a83bfc3167c", func := "gerund/gerundlaw29.CorpusDecodes", spec := "corpusDecodes", unfollowed := true, recurses := true, apart := false, narrowed := true }
def CorpusDecodesUptoSaid : Prop := corpusDecodesUptoRow.holds Try.pinned (OpenSpec.upto corpusDecodesSpec)

/-- 'gerundlaw29.CorpusBack', WHERE WHAT IT READS IS OF BULK AT MOST 1048576: true; the input reads as it did. -/
def corpusBackUptoRow : OpenClaim := { program := "ytbfefjlilmoigaa", sum := "b3a420f4f789aa1fe5e1bf3ee7ceb733cd6d1a671a97022cf7f49a83bfc3167c", func := "gerund/gerundlaw29.CorpusBack", spec := "corpusBack", unfollowed := true, recurses := true, apart := false, narrowed := true }
def CorpusBackUptoSaid : Prop := corpusBackUptoRow.holds Try.pinned (OpenSpec.upto corpusBackSpec)

end Rows
end Go.Proofs.Ytbfefjlilmoigaa
