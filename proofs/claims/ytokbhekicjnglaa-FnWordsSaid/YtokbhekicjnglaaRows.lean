/-
  No cell of these rows narrows 'for every input' (looked for: loops, veiled, ifaces, maps, wideKeys, modest, calm, conditions, laid).
  DERIVED. THE GIVEN ROWS OF THIS SEAT. 11 by the template 'for every input the law returns true; each argument reads behind the call as it read before'; 0 by the template 'total and deterministic' (their statements: YtokbhekicjnglaaTotals.lean).
  GIVEN WITH THE SEED: the statements are not yours to turn. If you find one false, say at which input.
  Laid BY PROGRAM, IN A SANDBOX (cutbox-rows.mjs): the forced cells as the released guide's own fill.sh prints them over the translation b80dc01722286923… (all of the seat's roots in one cut). By AI agents, Wed Nov 11 2026. No macro, syntax, notation, axiom, sorry.
-/
import Derived.Test.YtokbhekicjnglaaChecked
import GoSem.Claim
import GoSem.ClaimJoined
import GoSem.ClaimMapViews
import Derived.JoinedTies
import Derived.KernelRfl
namespace Go.Proofs.Ytokbhekicjnglaa
/- THE CELL 'sum', in the pinned program and in every row, IS THE sha256 OF THE DUMP (.gsa) THAT YtokbhekicjnglaaProg.lean LOADS. Nothing in Lean hashes anything: it is a label: what it is worth is what the hold of that sum in a sandbox is worth. -/
noncomputable def Try.pinned : Pinned := { name := "ytokbhekicjnglaa", sum := "b80dc017222869235c3a13edfbfe3289c2f516ba4a9a59ef3da527d314f9eaf7", checked := Try.checked }
namespace Rows
def none {H : Type} : Left H := { results := [], args := [] }

/-- 'laws.FnExactIsWord': WHATEVER THE INPUT: true; the input reads as it did. -/
def fnExactIsWordSpec : ChangeSpec := { name := "fnExactIsWord", fn := fun _ => fun
  | [d] => { results := [.lit (.bool true)], args := [d] }
  | _ => none }
def fnExactIsWordRow : OpenClaim := { program := "ytokbhekicjnglaa", sum := "b80dc017222869235c3a13edfbfe3289c2f516ba4a9a59ef3da527d314f9eaf7", func := "loop.example/g03105/laws.FnExactIsWord", spec := "fnExactIsWord", apart := false }
def FnExactIsWordSaid : Prop := fnExactIsWordRow.holds Try.pinned (OpenSpec.ofChange fnExactIsWordSpec)

/-- ITS FALSE NEIGHBOUR: 'it returns false'. Refute it at one input. -/
def fnExactIsWordWrong : ChangeSpec := { name := "fnExactIsWord", fn := fun _ => fun
  | [d] => { results := [.lit (.bool false)], args := [d] }
  | _ => none }
def FnExactIsWordWrongFalsely : Prop := fnExactIsWordRow.holds Try.pinned (OpenSpec.ofChange fnExactIsWordWrong)

/-- 'laws.FnExactParseWord': WHATEVER THE INPUT: true; the input reads as it did. -/
def fnExactParseWordSpec : ChangeSpec := { name := "fnExactParseWord", fn := fun _ => fun
  | [d] => { results := [.lit (.bool true)], args := [d] }
  | _ => none }
def fnExactParseWordRow : OpenClaim := { program := "ytokbhekicjnglaa", sum := "b80dc017222869235c3a13edfbfe3289c2f516ba4a9a59ef3da527d314f9eaf7", func := "loop.example/g03105/laws.FnExactParseWord", spec := "fnExactParseWord", apart := false }
def FnExactParseWordSaid : Prop := fnExactParseWordRow.holds Try.pinned (OpenSpec.ofChange fnExactParseWordSpec)

/-- ITS FALSE NEIGHBOUR: 'it returns false'. Refute it at one input. -/
def fnExactParseWordWrong : ChangeSpec := { name := "fnExactParseWord", fn := fun _ => fun
  | [d] => { results := [.lit (.bool false)], args := [d] }
  | _ => none }
def FnExactParseWordWrongFalsely : Prop := fnExactParseWordRow.holds Try.pinned (OpenSpec.ofChange fnExactParseWordWrong)

/-- 'laws.FnExactWordText': WHATEVER THE INPUT: true; the input reads as it did. -/
def fnExactWordTextSpec : ChangeSpec := { name := "fnExactWordText", fn := fun _ => fun
  | [d] => { results := [.lit (.bool true)], args := [d] }
  | _ => none }
def fnExactWordTextRow : OpenClaim := { program := "ytokbhekicjnglaa", sum := "b80dc017222869235c3a13edfbfe3289c2f516ba4a9a59ef3da527d314f9eaf7", func := "loop.example/g03105/laws.FnExactWordText", spec := "fnExactWordText", apart := false }
def FnExactWordTextSaid : Prop := fnExactWordTextRow.holds Try.pinned (OpenSpec.ofChange fnExactWordTextSpec)

/-- ITS FALSE NEIGHBOUR: 'it returns false'. Refute it at one input. -/
def fnExactWordTextWrong : ChangeSpec := { name := "fnExactWordText", fn := fun _ => fun
  | [d] => { results := [.lit (.bool false)], args := [d] }
  | _ => none }
def FnExactWordTextWrongFalsely : Prop := fnExactWordTextRow.holds Try.pinned (OpenSpec.ofChange fnExactWordTextWrong)

/-- 'laws.FnExactInverseWord': WHATEVER THE INPUT: true; the input reads as it did. -/
def fnExactInverseWordSpec : ChangeSpec := { name := "fnExactInverseWord", fn := fun _ => fun
  | [d] => { results := [.lit (.bool true)], args := [d] }
  | _ => none }
def fnExactInverseWordRow : OpenClaim := { program := "ytokbhekicjnglaa", sum := "b80dc017222869235c3a13edfbfe3289c2f516ba4a9a59ef3da527d314f9eaf7", func := "loop.example/g03105/laws.FnExactInverseWord", spec := "fnExactInverseWord", apart := false }
def FnExactInverseWordSaid : Prop := fnExactInverseWordRow.holds Try.pinned (OpenSpec.ofChange fnExactInverseWordSpec)

/-- ITS FALSE NEIGHBOUR: 'it returns false'. Refute it at one input. -/
def fnExactInverseWordWrong : ChangeSpec := { name := "fnExactInverseWord", fn := fun _ => fun
  | [d] => { results := [.lit (.bool false)], args := [d] }
  | _ => none }
def FnExactInverseWordWrongFalsely : Prop := fnExactInverseWordRow.holds Try.pinned (OpenSpec.ofChange fnExactInverseWordWrong)

/-- 'laws.FnExactLetterSums': WHATEVER THE INPUT: true; the input reads as it did. -/
def fnExactLetterSumsSpec : ChangeSpec := { name := "fnExactLetterSums", fn := fun _ => fun
  | [d] => { results := [.lit (.bool true)], args := [d] }
  | _ => none }
def fnExactLetterSumsRow : OpenClaim := { program := "ytokbhekicjnglaa", sum := "b80dc017222869235c3a13edfbfe3289c2f516ba4a9a59ef3da527d314f9eaf7", func := "loop.example/g03105/laws.FnExactLetterSums", spec := "fnExactLetterSums", apart := false }
def FnExactLetterSumsSaid : Prop := fnExactLetterSumsRow.holds Try.pinned (OpenSpec.ofChange fnExactLetterSumsSpec)

/-- ITS FALSE NEIGHBOUR: 'it returns false'. Refute it at one input. -/
def fnExactLetterSumsWrong : ChangeSpec := { name := "fnExactLetterSums", fn := fun _ => fun
  | [d] => { results := [.lit (.bool false)], args := [d] }
  | _ => none }
def FnExactLetterSumsWrongFalsely : Prop := fnExactLetterSumsRow.holds Try.pinned (OpenSpec.ofChange fnExactLetterSumsWrong)

/-- 'laws.FnExactReduceWord': WHATEVER THE INPUT: true; the input reads as it did. -/
def fnExactReduceWordSpec : ChangeSpec := { name := "fnExactReduceWord", fn := fun _ => fun
  | [d] => { results := [.lit (.bool true)], args := [d] }
  | _ => none }
def fnExactReduceWordRow : OpenClaim := { program := "ytokbhekicjnglaa", sum := "b80dc017222869235c3a13edfbfe3289c2f516ba4a9a59ef3da527d314f9eaf7", func := "loop.example/g03105/laws.FnExactReduceWord", spec := "fnExactReduceWord", apart := false }
def FnExactReduceWordSaid : Prop := fnExactReduceWordRow.holds Try.pinned (OpenSpec.ofChange fnExactReduceWordSpec)

/-- ITS FALSE NEIGHBOUR: 'it returns false'. Refute it at one input. -/
def fnExactReduceWordWrong : ChangeSpec := { name := "fnExactReduceWord", fn := fun _ => fun
  | [d] => { results := [.lit (.bool false)], args := [d] }
  | _ => none }
def FnExactReduceWordWrongFalsely : Prop := fnExactReduceWordRow.holds Try.pinned (OpenSpec.ofChange fnExactReduceWordWrong)

/-- 'laws.FnExactProductWord': WHATEVER THE INPUT: true; the input reads as it did. -/
def fnExactProductWordSpec : ChangeSpec := { name := "fnExactProductWord", fn := fun _ => fun
  | [d1, d2] => { results := [.lit (.bool true)], args := [d1, d2] }
  | _ => none }
def fnExactProductWordRow : OpenClaim := { program := "ytokbhekicjnglaa", sum := "b80dc017222869235c3a13edfbfe3289c2f516ba4a9a59ef3da527d314f9eaf7", func := "loop.example/g03105/laws.FnExactProductWord", spec := "fnExactProductWord", apart := false }
def FnExactProductWordSaid : Prop := fnExactProductWordRow.holds Try.pinned (OpenSpec.ofChange fnExactProductWordSpec)

/-- ITS FALSE NEIGHBOUR: 'it returns false'. Refute it at one input. -/
def fnExactProductWordWrong : ChangeSpec := { name := "fnExactProductWord", fn := fun _ => fun
  | [d1, d2] => { results := [.lit (.bool false)], args := [d1, d2] }
  | _ => none }
def FnExactProductWordWrongFalsely : Prop := fnExactProductWordRow.holds Try.pinned (OpenSpec.ofChange fnExactProductWordWrong)

/-- 'laws.FnExactTurnWord': WHATEVER THE INPUT: true; the input reads as it did. -/
def fnExactTurnWordSpec : ChangeSpec := { name := "fnExactTurnWord", fn := fun _ => fun
  | [d1, d2] => { results := [.lit (.bool true)], args := [d1, d2] }
  | _ => none }
def fnExactTurnWordRow : OpenClaim := { program := "ytokbhekicjnglaa", sum := "b80dc017222869235c3a13edfbfe3289c2f516ba4a9a59ef3da527d314f9eaf7", func := "loop.example/g03105/laws.FnExactTurnWord", spec := "fnExactTurnWord", apart := false }
def FnExactTurnWordSaid : Prop := fnExactTurnWordRow.holds Try.pinned (OpenSpec.ofChange fnExactTurnWordSpec)

/-- ITS FALSE NEIGHBOUR: 'it returns false'. Refute it at one input. -/
def fnExactTurnWordWrong : ChangeSpec := { name := "fnExactTurnWord", fn := fun _ => fun
  | [d1, d2] => { results := [.lit (.bool false)], args := [d1, d2] }
  | _ => none }
def FnExactTurnWordWrongFalsely : Prop := fnExactTurnWordRow.holds Try.pinned (OpenSpec.ofChange fnExactTurnWordWrong)

/-- 'laws.FnExactCoreWord': WHATEVER THE INPUT: true; the input reads as it did. -/
def fnExactCoreWordSpec : ChangeSpec := { name := "fnExactCoreWord", fn := fun _ => fun
  | [d] => { results := [.lit (.bool true)], args := [d] }
  | _ => none }
def fnExactCoreWordRow : OpenClaim := { program := "ytokbhekicjnglaa", sum := "b80dc017222869235c3a13edfbfe3289c2f516ba4a9a59ef3da527d314f9eaf7", func := "loop.example/g03105/laws.FnExactCoreWord", spec := "fnExactCoreWord", apart := false }
def FnExactCoreWordSaid : Prop := fnExactCoreWordRow.holds Try.pinned (OpenSpec.ofChange fnExactCoreWordSpec)

/-- ITS FALSE NEIGHBOUR: 'it returns false'. Refute it at one input. -/
def fnExactCoreWordWrong : ChangeSpec := { name := "fnExactCoreWord", fn := fun _ => fun
  | [d] => { results := [.lit (.bool false)], args := [d] }
  | _ => none }
def FnExactCoreWordWrongFalsely : Prop := fnExactCoreWordRow.holds Try.pinned (OpenSpec.ofChange fnExactCoreWordWrong)

/-- 'laws.FnExactAreConjugate': WHATEVER THE INPUT: true; the input reads as it did. -/
def fnExactAreConjugateSpec : ChangeSpec := { name := "fnExactAreConjugate", fn := fun _ => fun
  | [d1, d2] => { results := [.lit (.bool true)], args := [d1, d2] }
  | _ => none }
def fnExactAreConjugateRow : OpenClaim := { program := "ytokbhekicjnglaa", sum := "b80dc017222869235c3a13edfbfe3289c2f516ba4a9a59ef3da527d314f9eaf7", func := "loop.example/g03105/laws.FnExactAreConjugate", spec := "fnExactAreConjugate", apart := false }
def FnExactAreConjugateSaid : Prop := fnExactAreConjugateRow.holds Try.pinned (OpenSpec.ofChange fnExactAreConjugateSpec)

/-- ITS FALSE NEIGHBOUR: 'it returns false'. Refute it at one input. -/
def fnExactAreConjugateWrong : ChangeSpec := { name := "fnExactAreConjugate", fn := fun _ => fun
  | [d1, d2] => { results := [.lit (.bool false)], args := [d1, d2] }
  | _ => none }
def FnExactAreConjugateWrongFalsely : Prop := fnExactAreConjugateRow.holds Try.pinned (OpenSpec.ofChange fnExactAreConjugateWrong)

/-- 'laws.FnWords': WHATEVER THE INPUT: true; the input reads as it did. -/
def fnWordsSpec : ChangeSpec := { name := "fnWords", fn := fun _ => fun
  | [d] => { results := [.lit (.bool true)], args := [d] }
  | _ => none }
def fnWordsRow : OpenClaim := { program := "ytokbhekicjnglaa", sum := "b80dc017222869235c3a13edfbfe3289c2f516ba4a9a59ef3da527d314f9eaf7", func := "loop.example/g03105/laws.FnWords", spec := "fnWords", apart := false }
def FnWordsSaid : Prop := fnWordsRow.holds Try.pinned (OpenSpec.ofChange fnWordsSpec)

/-- ITS FALSE NEIGHBOUR: 'it returns false'. Refute it at one input. -/
def fnWordsWrong : ChangeSpec := { name := "fnWords", fn := fun _ => fun
  | [d] => { results := [.lit (.bool false)], args := [d] }
  | _ => none }
def FnWordsWrongFalsely : Prop := fnWordsRow.holds Try.pinned (OpenSpec.ofChange fnWordsWrong)

/- THE SECOND FORM. 'bulk': how many values and letters a reading holds, each counted each time it is reached (what is shared counts as often as it is met; a slice's spare places count too). A statement '..UptoSaid' is the law's where the arguments, and the package variables that the reading takes, are together of bulk at most 1048576: NARROWER than '..Said'. Prove '..Said' where nothing that the law and all that it calls make is longer than what came in: it says more and counts as full. Else prove '..UptoSaid'. A law counts once. -/
mutual
def uptoBulk {H : Type} : DataW H → Nat
  | .lit (.string bytes) => bytes.length + 1
  | .lit _ => 1
  | .nil => 1
  | .ptr d => uptoBulk d + 1
  | .slice elems spare => uptoBulkAll elems + uptoBulkAll spare + 1
  | .agg parts => uptoBulkAll parts + 1
  | .iface _ d => uptoBulk d + 1
  | .map entries => uptoBulkEntries entries + 1
  | .held _ => 1
def uptoBulkAll {H : Type} : List (DataW H) → Nat
  | [] => 0
  | d :: r => uptoBulk d + uptoBulkAll r
def uptoBulkEntries {H : Type} : List (Lit × DataW H) → Nat
  | [] => 0
  | x :: r => uptoBulkEntry x + uptoBulkEntries r
def uptoBulkEntry {H : Type} : Lit × DataW H → Nat
  | (.string bytes, d) => bytes.length + uptoBulk d + 1
  | (_, d) => uptoBulk d + 1
 end
def uptoSmall : (H : Type) → List (DataW H) → Bool := fun _ ds => decide (uptoBulkAll ds ≤ 1048576)
def OpenSpec.upto (s : _root_.Go.ChangeSpec) : _root_.Go.OpenSpec := { _root_.Go.OpenSpec.ofChange s with cond := some uptoSmall }

/-- 'laws.FnExactIsWord', WHERE WHAT IT READS IS OF BULK AT MOST 1048576: true; the input reads as it did. -/
def fnExactIsWordUptoRow : OpenClaim := { program := "ytokbhekicjnglaa", sum := "b80dc017222869235c3a13edfbfe3289c2f516ba4a9a59ef3da527d314f9eaf7", func := "loop.example/g03105/laws.FnExactIsWord", spec := "fnExactIsWord", apart := false, narrowed := true }
def FnExactIsWordUptoSaid : Prop := fnExactIsWordUptoRow.holds Try.pinned (OpenSpec.upto fnExactIsWordSpec)

/-- 'laws.FnExactParseWord', WHERE WHAT IT READS IS OF BULK AT MOST 1048576: true; the input reads as it did. -/
def fnExactParseWordUptoRow : OpenClaim := { program := "ytokbhekicjnglaa", sum := "b80dc017222869235c3a13edfbfe3289c2f516ba4a9a59ef3da527d314f9eaf7", func := "loop.example/g03105/laws.FnExactParseWord", spec := "fnExactParseWord", apart := false, narrowed := true }
def FnExactParseWordUptoSaid : Prop := fnExactParseWordUptoRow.holds Try.pinned (OpenSpec.upto fnExactParseWordSpec)

/-- 'laws.FnExactWordText', WHERE WHAT IT READS IS OF BULK AT MOST 1048576: true; the input reads as it did. -/
def fnExactWordTextUptoRow : OpenClaim := { program := "ytokbhekicjnglaa", sum := "b80dc017222869235c3a13edfbfe3289c2f516ba4a9a59ef3da527d314f9eaf7", func := "loop.example/g03105/laws.FnExactWordText", spec := "fnExactWordText", apart := false, narrowed := true }
def FnExactWordTextUptoSaid : Prop := fnExactWordTextUptoRow.holds Try.pinned (OpenSpec.upto fnExactWordTextSpec)

/-- 'laws.FnExactInverseWord', WHERE WHAT IT READS IS OF BULK AT MOST 1048576: true; the input reads as it did. -/
def fnExactInverseWordUptoRow : OpenClaim := { program := "ytokbhekicjnglaa", sum := "b80dc017222869235c3a13edfbfe3289c2f516ba4a9a59ef3da527d314f9eaf7", func := "loop.example/g03105/laws.FnExactInverseWord", spec := "fnExactInverseWord", apart := false, narrowed := true }
def FnExactInverseWordUptoSaid : Prop := fnExactInverseWordUptoRow.holds Try.pinned (OpenSpec.upto fnExactInverseWordSpec)

/-- 'laws.FnExactLetterSums', WHERE WHAT IT READS IS OF BULK AT MOST 1048576: true; the input reads as it did. -/
def fnExactLetterSumsUptoRow : OpenClaim := { program := "ytokbhekicjnglaa", sum := "b80dc017222869235c3a13edfbfe3289c2f516ba4a9a59ef3da527d314f9eaf7", func := "loop.example/g03105/laws.FnExactLetterSums", spec := "fnExactLetterSums", apart := false, narrowed := true }
def FnExactLetterSumsUptoSaid : Prop := fnExactLetterSumsUptoRow.holds Try.pinned (OpenSpec.upto fnExactLetterSumsSpec)

/-- 'laws.FnExactReduceWord', WHERE WHAT IT READS IS OF BULK AT MOST 1048576: true; the input reads as it did. -/
def fnExactReduceWordUptoRow : OpenClaim := { program := "ytokbhekicjnglaa", sum := "b80dc017222869235c3a13edfbfe3289c2f516ba4a9a59ef3da527d314f9eaf7", func := "loop.example/g03105/laws.FnExactReduceWord", spec := "fnExactReduceWord", apart := false, narrowed := true }
def FnExactReduceWordUptoSaid : Prop := fnExactReduceWordUptoRow.holds Try.pinned (OpenSpec.upto fnExactReduceWordSpec)

/-- 'laws.FnExactProductWord', WHERE WHAT IT READS IS OF BULK AT MOST 1048576: true; the input reads as it did. -/
def fnExactProductWordUptoRow : OpenClaim := { program := "ytokbhekicjnglaa", sum := "b80dc017222869235c3a13edfbfe3289c2f516ba4a9a59ef3da527d314f9eaf7", func := "loop.example/g03105/laws.FnExactProductWord", spec := "fnExactProductWord", apart := false, narrowed := true }
def FnExactProductWordUptoSaid : Prop := fnExactProductWordUptoRow.holds Try.pinned (OpenSpec.upto fnExactProductWordSpec)

/-- 'laws.FnExactTurnWord', WHERE WHAT IT READS IS OF BULK AT MOST 1048576: true; the input reads as it did. -/
def fnExactTurnWordUptoRow : OpenClaim := { program := "ytokbhekicjnglaa", sum := "b80dc017222869235c3a13edfbfe3289c2f516ba4a9a59ef3da527d314f9eaf7", func := "loop.example/g03105/laws.FnExactTurnWord", spec := "fnExactTurnWord", apart := false, narrowed := true }
def FnExactTurnWordUptoSaid : Prop := fnExactTurnWordUptoRow.holds Try.pinned (OpenSpec.upto fnExactTurnWordSpec)

/-- 'laws.FnExactCoreWord', WHERE WHAT IT READS IS OF BULK AT MOST 1048576: true; the input reads as it did. -/
def fnExactCoreWordUptoRow : OpenClaim := { program := "ytokbhekicjnglaa", sum := "b80dc017222869235c3a13edfbfe3289c2f516ba4a9a59ef3da527d314f9eaf7", func := "loop.example/g03105/laws.FnExactCoreWord", spec := "fnExactCoreWord", apart := false, narrowed := true }
def FnExactCoreWordUptoSaid : Prop := fnExactCoreWordUptoRow.holds Try.pinned (OpenSpec.upto fnExactCoreWordSpec)

/-- 'laws.FnExactAreConjugate', WHERE WHAT IT READS IS OF BULK AT MOST 1048576: true; the input reads as it did. -/
def fnExactAreConjugateUptoRow : OpenClaim := { program := "ytokbhekicjnglaa", sum := "b80dc017222869235c3a13edfbfe3289c2f516ba4a9a59ef3da527d314f9eaf7", func := "loop.example/g03105/laws.FnExactAreConjugate", spec := "fnExactAreConjugate", apart := false, narrowed := true }
def FnExactAreConjugateUptoSaid : Prop := fnExactAreConjugateUptoRow.holds Try.pinned (OpenSpec.upto fnExactAreConjugateSpec)

/-- 'laws.FnWords', WHERE WHAT IT READS IS OF BULK AT MOST 1048576: true; the input reads as it did. -/
def fnWordsUptoRow : OpenClaim := { program := "ytokbhekicjnglaa", sum := "b80dc017222869235c3a13edfbfe3289c2f516ba4a9a59ef3da527d314f9eaf7", func := "loop.example/g03105/laws.FnWords", spec := "fnWords", apart := false, narrowed := true }
def FnWordsUptoSaid : Prop := fnWordsUptoRow.holds Try.pinned (OpenSpec.upto fnWordsSpec)

end Rows
end Go.Proofs.Ytokbhekicjnglaa
