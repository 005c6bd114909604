/-
  No cell of these rows narrows 'for every input' (looked for: loops, veiled, ifaces, maps, wideKeys, modest, calm, conditions, laid).
  DERIVED. THE GIVEN ROWS OF THIS SEAT. 10 by the template 'for every input the law returns true; each argument reads behind the call as it read before'; 0 by the template 'total and deterministic' (their statements: YtnbgmpfldoaodaaTotals.lean).
  GIVEN WITH THE SEED: the statements are not yours to turn. If you find one false, say at which input.
  Laid BY PROGRAM, IN A SANDBOX (cutbox-rows.mjs): the forced cells as the released guide's own fill.sh prints them over the translation 6abb2a6a468dcdc4… (all of the seat's roots in one cut). By AI agents, Wed Nov 11 2026. No macro, syntax, notation, axiom, sorry.
-/
import Derived.Test.YtnbgmpfldoaodaaChecked
import GoSem.Claim
import GoSem.ClaimJoined
import GoSem.ClaimMapViews
import Derived.JoinedTies
import Derived.KernelRfl
namespace Go.Proofs.Ytnbgmpfldoaodaa
/- THE CELL 'sum', in the pinned program and in every row, IS THE sha256 OF THE DUMP (.gsa) THAT YtnbgmpfldoaodaaProg.lean LOADS. Nothing in Lean hashes anything: it is a label: what it is worth is what the hold of that sum in a sandbox is worth. -/
noncomputable def Try.pinned : Pinned := { name := "ytnbgmpfldoaodaa", sum := "6abb2a6a468dcdc4d1aa17c176e018d39c4e245945c679582fc53909a29a663f", checked := Try.checked }
namespace Rows
def none {H : Type} : Left H := { results := [], args := [] }

/-- 'polyglotlaw06.ReasonBack': WHATEVER THE INPUT: true; the input reads as it did. -/
def reasonBackSpec : ChangeSpec := { name := "reasonBack", fn := fun _ => fun
  | [d] => { results := [.lit (.bool true)], args := [d] }
  | _ => none }
def reasonBackRow : OpenClaim := { program := "ytnbgmpfldoaodaa", sum := "6abb2a6a468dcdc4d1aa17c176e018d39c4e245945c679582fc53909a29a663f", func := "polyglot/polyglotlaw06.ReasonBack", spec := "reasonBack", apart := false }
def ReasonBackSaid : Prop := reasonBackRow.holds Try.pinned (OpenSpec.ofChange reasonBackSpec)

/-- ITS FALSE NEIGHBOUR: 'it returns false'. Refute it at one input. -/
def reasonBackWrong : ChangeSpec := { name := "reasonBack", fn := fun _ => fun
  | [d] => { results := [.lit (.bool false)], args := [d] }
  | _ => none }
def ReasonBackWrongFalsely : Prop := reasonBackRow.holds Try.pinned (OpenSpec.ofChange reasonBackWrong)

/-- 'polyglotlaw06.ReasonLists': WHATEVER THE INPUT: true; the input reads as it did. -/
def reasonListsSpec : ChangeSpec := { name := "reasonLists", fn := fun _ => fun
  | [d1, d2, d3] => { results := [.lit (.bool true)], args := [d1, d2, d3] }
  | _ => none }
def reasonListsRow : OpenClaim := { program := "ytnbgmpfldoaodaa", sum := "6abb2a6a468dcdc4d1aa17c176e018d39c4e245945c679582fc53909a29a663f", func := "polyglot/polyglotlaw06.ReasonLists", spec := "reasonLists", apart := false }
def ReasonListsSaid : Prop := reasonListsRow.holds Try.pinned (OpenSpec.ofChange reasonListsSpec)

/-- ITS FALSE NEIGHBOUR: 'it returns false'. Refute it at one input. -/
def reasonListsWrong : ChangeSpec := { name := "reasonLists", fn := fun _ => fun
  | [d1, d2, d3] => { results := [.lit (.bool false)], args := [d1, d2, d3] }
  | _ => none }
def ReasonListsWrongFalsely : Prop := reasonListsRow.holds Try.pinned (OpenSpec.ofChange reasonListsWrong)

/-- 'polyglotlaw06.ReasonNames': WHATEVER THE INPUT: true; the input reads as it did. -/
def reasonNamesSpec : ChangeSpec := { name := "reasonNames", fn := fun _ => fun
  | [] => { results := [.lit (.bool true)], args := [] }
  | _ => none }
def reasonNamesRow : OpenClaim := { program := "ytnbgmpfldoaodaa", sum := "6abb2a6a468dcdc4d1aa17c176e018d39c4e245945c679582fc53909a29a663f", func := "polyglot/polyglotlaw06.ReasonNames", spec := "reasonNames", apart := false }
def ReasonNamesSaid : Prop := reasonNamesRow.holds Try.pinned (OpenSpec.ofChange reasonNamesSpec)

/-- ITS FALSE NEIGHBOUR: 'it returns false'. Refute it at one input. -/
def reasonNamesWrong : ChangeSpec := { name := "reasonNames", fn := fun _ => fun
  | [] => { results := [.lit (.bool false)], args := [] }
  | _ => none }
def ReasonNamesWrongFalsely : Prop := reasonNamesRow.holds Try.pinned (OpenSpec.ofChange reasonNamesWrong)

/-- 'polyglotlaw06.ReasonCalls': WHATEVER THE INPUT: true; the input reads as it did. -/
def reasonCallsSpec : ChangeSpec := { name := "reasonCalls", fn := fun _ => fun
  | [d1, d2] => { results := [.lit (.bool true)], args := [d1, d2] }
  | _ => none }
def reasonCallsRow : OpenClaim := { program := "ytnbgmpfldoaodaa", sum := "6abb2a6a468dcdc4d1aa17c176e018d39c4e245945c679582fc53909a29a663f", func := "polyglot/polyglotlaw06.ReasonCalls", spec := "reasonCalls", apart := false }
def ReasonCallsSaid : Prop := reasonCallsRow.holds Try.pinned (OpenSpec.ofChange reasonCallsSpec)

/-- ITS FALSE NEIGHBOUR: 'it returns false'. Refute it at one input. -/
def reasonCallsWrong : ChangeSpec := { name := "reasonCalls", fn := fun _ => fun
  | [d1, d2] => { results := [.lit (.bool false)], args := [d1, d2] }
  | _ => none }
def ReasonCallsWrongFalsely : Prop := reasonCallsRow.holds Try.pinned (OpenSpec.ofChange reasonCallsWrong)

/-- 'polyglotlaw10.AckCodes': WHATEVER THE INPUT: true; the input reads as it did. -/
def ackCodesSpec : ChangeSpec := { name := "ackCodes", fn := fun _ => fun
  | [d1, d2, d3] => { results := [.lit (.bool true)], args := [d1, d2, d3] }
  | _ => none }
def ackCodesRow : OpenClaim := { program := "ytnbgmpfldoaodaa", sum := "6abb2a6a468dcdc4d1aa17c176e018d39c4e245945c679582fc53909a29a663f", func := "polyglot/polyglotlaw10.AckCodes", spec := "ackCodes", inPlace := ["internal/bytealg.IndexByteString", "internal/bytealg.IndexString"], unfollowed := true, recurses := true, named := ["internal/bytealg.MaxLen"], apart := false }
def AckCodesSaid : Prop := ackCodesRow.holds Try.pinned (OpenSpec.ofChange ackCodesSpec)

/-- ITS FALSE NEIGHBOUR: 'it returns false'. Refute it at one input. -/
def ackCodesWrong : ChangeSpec := { name := "ackCodes", fn := fun _ => fun
  | [d1, d2, d3] => { results := [.lit (.bool false)], args := [d1, d2, d3] }
  | _ => none }
def AckCodesWrongFalsely : Prop := ackCodesRow.holds Try.pinned (OpenSpec.ofChange ackCodesWrong)

/-- 'polyglotlaw10.AckNext': WHATEVER THE INPUT: true; the input reads as it did. -/
def ackNextSpec : ChangeSpec := { name := "ackNext", fn := fun _ => fun
  | [d1, d2] => { results := [.lit (.bool true)], args := [d1, d2] }
  | _ => none }
def ackNextRow : OpenClaim := { program := "ytnbgmpfldoaodaa", sum := "6abb2a6a468dcdc4d1aa17c176e018d39c4e245945c679582fc53909a29a663f", func := "polyglot/polyglotlaw10.AckNext", spec := "ackNext", inPlace := ["internal/bytealg.IndexByteString", "internal/bytealg.IndexString"], unfollowed := true, recurses := true, named := ["internal/bytealg.MaxLen"], apart := false }
def AckNextSaid : Prop := ackNextRow.holds Try.pinned (OpenSpec.ofChange ackNextSpec)

/-- ITS FALSE NEIGHBOUR: 'it returns false'. Refute it at one input. -/
def ackNextWrong : ChangeSpec := { name := "ackNext", fn := fun _ => fun
  | [d1, d2] => { results := [.lit (.bool false)], args := [d1, d2] }
  | _ => none }
def AckNextWrongFalsely : Prop := ackNextRow.holds Try.pinned (OpenSpec.ofChange ackNextWrong)

/-- 'polyglotlaw12.ControlCodes': WHATEVER THE INPUT: true; the input reads as it did. -/
def controlCodesSpec : ChangeSpec := { name := "controlCodes", fn := fun _ => fun
  | [d1, d2] => { results := [.lit (.bool true)], args := [d1, d2] }
  | _ => none }
def controlCodesRow : OpenClaim := { program := "ytnbgmpfldoaodaa", sum := "6abb2a6a468dcdc4d1aa17c176e018d39c4e245945c679582fc53909a29a663f", func := "polyglot/polyglotlaw12.ControlCodes", spec := "controlCodes", inPlace := ["internal/bytealg.IndexByteString", "internal/bytealg.IndexString"], unfollowed := true, recurses := true, named := ["internal/bytealg.MaxLen"], apart := false }
def ControlCodesSaid : Prop := controlCodesRow.holds Try.pinned (OpenSpec.ofChange controlCodesSpec)

/-- ITS FALSE NEIGHBOUR: 'it returns false'. Refute it at one input. -/
def controlCodesWrong : ChangeSpec := { name := "controlCodes", fn := fun _ => fun
  | [d1, d2] => { results := [.lit (.bool false)], args := [d1, d2] }
  | _ => none }
def ControlCodesWrongFalsely : Prop := controlCodesRow.holds Try.pinned (OpenSpec.ofChange controlCodesWrong)

/-- 'polyglotlaw12.ControlAcks': WHATEVER THE INPUT: true; the input reads as it did. -/
def controlAcksSpec : ChangeSpec := { name := "controlAcks", fn := fun _ => fun
  | [d] => { results := [.lit (.bool true)], args := [d] }
  | _ => none }
def controlAcksRow : OpenClaim := { program := "ytnbgmpfldoaodaa", sum := "6abb2a6a468dcdc4d1aa17c176e018d39c4e245945c679582fc53909a29a663f", func := "polyglot/polyglotlaw12.ControlAcks", spec := "controlAcks", inPlace := ["internal/bytealg.IndexByteString", "internal/bytealg.IndexString"], unfollowed := true, recurses := true, named := ["internal/bytealg.MaxLen"], apart := false }
def ControlAcksSaid : Prop := controlAcksRow.holds Try.pinned (OpenSpec.ofChange controlAcksSpec)

/-- ITS FALSE NEIGHBOUR: 'it returns false'. Refute it at one input. -/
def controlAcksWrong : ChangeSpec := { name := "controlAcks", fn := fun _ => fun
  | [d] => { results := [.lit (.bool false)], args := [d] }
  | _ => none }
def ControlAcksWrongFalsely : Prop := controlAcksRow.holds Try.pinned (OpenSpec.ofChange controlAcksWrong)

/-- 'polyglotlaw08.ConnectAnswers': WHATEVER THE INPUT: true; the input reads as it did. -/
def connectAnswersSpec : ChangeSpec := { name := "connectAnswers", fn := fun _ => fun
  | [d1, d2] => { results := [.lit (.bool true)], args := [d1, d2] }
  | _ => none }
def connectAnswersRow : OpenClaim := { program := "ytnbgmpfldoaodaa", sum := "6abb2a6a468dcdc4d1aa17c176e018d39c4e245945c679582fc53909a29a663f", func := "polyglot/polyglotlaw08.ConnectAnswers", spec := "connectAnswers", inPlace := ["internal/bytealg.IndexByteString", "internal/bytealg.IndexString", "internal/abi.NoEscape", "internal/bytealg.MakeNoZero"], unfollowed := true, recurses := true, named := ["internal/bytealg.MaxLen"], apart := false }
def ConnectAnswersSaid : Prop := connectAnswersRow.holds Try.pinned (OpenSpec.ofChange connectAnswersSpec)

/-- ITS FALSE NEIGHBOUR: 'it returns false'. Refute it at one input. -/
def connectAnswersWrong : ChangeSpec := { name := "connectAnswers", fn := fun _ => fun
  | [d1, d2] => { results := [.lit (.bool false)], args := [d1, d2] }
  | _ => none }
def ConnectAnswersWrongFalsely : Prop := connectAnswersRow.holds Try.pinned (OpenSpec.ofChange connectAnswersWrong)

/-- 'polyglotlaw10.AckBack': WHATEVER THE INPUT: true; the input reads as it did. -/
def ackBackSpec : ChangeSpec := { name := "ackBack", fn := fun _ => fun
  | [d1, d2, d3, d4] => { results := [.lit (.bool true)], args := [d1, d2, d3, d4] }
  | _ => none }
def ackBackRow : OpenClaim := { program := "ytnbgmpfldoaodaa", sum := "6abb2a6a468dcdc4d1aa17c176e018d39c4e245945c679582fc53909a29a663f", func := "polyglot/polyglotlaw10.AckBack", spec := "ackBack", inPlace := ["internal/bytealg.IndexByteString", "internal/bytealg.IndexString"], unfollowed := true, recurses := true, named := ["internal/bytealg.MaxLen"], apart := false }
def AckBackSaid : Prop := ackBackRow.holds Try.pinned (OpenSpec.ofChange ackBackSpec)

/-- ITS FALSE NEIGHBOUR: 'it returns false'. Refute it at one input. -/
def ackBackWrong : ChangeSpec := { name := "ackBack", fn := fun _ => fun
  | [d1, d2, d3, d4] => { results := [.lit (.bool false)], args := [d1, d2, d3, d4] }
  | _ => none }
def AckBackWrongFalsely : Prop := ackBackRow.holds Try.pinned (OpenSpec.ofChange ackBackWrong)

/- THE SECOND FORM. 'bulk': how many values and letters a reading holds, each counted each time it is reached (what is shared counts as often as it is met; a slice's spare places count too). A statement '..UptoSaid' is the law's where the arguments, and the package variables that the reading takes, are together of bulk at most 1048576: NARROWER than '..Said'. Prove '..Said' where nothing that the law and all that it calls make is longer than what came in: it says more and counts as full. Else prove '..UptoSaid'. A law counts once. -/
mutual
def uptoBulk {H : Type} : DataW H → Nat
  | .lit (.string bytes) => bytes.length + 1
  | .lit _ => 1
  | .nil => 1
  | .ptr d => uptoBulk d + 1
  | .slice elems spare => uptoBulkAll elems + uptoBulkAll spare + 1
  | .agg parts => uptoBulkAll parts + 1
  | .iface _ d => uptoBulk d + 1
  | .map entries => uptoBulkEntries entries + 1
  | .held _ => 1
def uptoBulkAll {H : Type} : List (DataW H) → Nat
  | [] => 0
  | d :: r => uptoBulk d + uptoBulkAll r
def uptoBulkEntries {H : Type} : List (Lit × DataW H) → Nat
  | [] => 0
  | x :: r => uptoBulkEntry x + uptoBulkEntries r
def uptoBulkEntry {H : Type} : Lit × DataW H → Nat
  | (.string bytes, d) => bytes.length + uptoBulk d + 1
  | (_, d) => uptoBulk d + 1
 end
def uptoSmall : (H : Type) → List (DataW H) → Bool := fun _ ds => decide (uptoBulkAll ds ≤ 1048576)
def OpenSpec.upto (s : _root_.Go.ChangeSpec) : _root_.Go.OpenSpec := { _root_.Go.OpenSpec.ofChange s with cond := some uptoSmall }

/-- 'polyglotlaw06.ReasonBack', WHERE WHAT IT READS IS OF BULK AT MOST 1048576: true; the input reads as it did. -/
def reasonBackUptoRow : OpenClaim := { program := "ytnbgmpfldoaodaa", sum := "6abb2a6a468dcdc4d1aa17c176e018d39c4e245945c679582fc53909a29a663f", func := "polyglot/polyglotlaw06.ReasonBack", spec := "reasonBack", apart := false, narrowed := true }
def ReasonBackUptoSaid : Prop := reasonBackUptoRow.holds Try.pinned (OpenSpec.upto reasonBackSpec)

/-- 'polyglotlaw06.ReasonLists', WHERE WHAT IT READS IS OF BULK AT MOST 1048576: true; the input reads as it did. -/
def reasonListsUptoRow : OpenClaim := { program := "ytnbgmpfldoaodaa", sum := "6abb2a6a468dcdc4d1aa17c176e018d39c4e245945c679582fc53909a29a663f", func := "polyglot/polyglotlaw06.ReasonLists", spec := "reasonLists", apart := false, narrowed := true }
def ReasonListsUptoSaid : Prop := reasonListsUptoRow.holds Try.pinned (OpenSpec.upto reasonListsSpec)

/-- 'polyglotlaw06.ReasonNames', WHERE WHAT IT READS IS OF BULK AT MOST 1048576: true; the input reads as it did. -/
def reasonNamesUptoRow : OpenClaim := { program := "ytnbgmpfldoaodaa", sum := "6abb2a6a468dcdc4d1aa17c176e018d39c4e245945c679582fc53909a29a663f", func := "polyglot/polyglotlaw06.ReasonNames", spec := "reasonNames", apart := false, narrowed := true }
def ReasonNamesUptoSaid : Prop := reasonNamesUptoRow.holds Try.pinned (OpenSpec.upto reasonNamesSpec)

/-- 'polyglotlaw06.ReasonCalls', WHERE WHAT IT READS IS OF BULK AT MOST 1048576: true; the input reads as it did. -/
def reasonCallsUptoRow : OpenClaim := { program := "ytnbgmpfldoaodaa", sum := "6abb2a6a468dcdc4d1aa17c176e018d39c4e245945c679582fc53909a29a663f", func := "polyglot/polyglotlaw06.ReasonCalls", spec := "reasonCalls", apart := false, narrowed := true }
def ReasonCallsUptoSaid : Prop := reasonCallsUptoRow.holds Try.pinned (OpenSpec.upto reasonCallsSpec)

/-- 'polyglotlaw10.AckCodes', WHERE WHAT IT READS IS OF BULK AT MOST 1048576: true; the input reads as it did. -/
def ackCodesUptoRow : OpenClaim := { program := "ytnbgmpfldoaodaa", sum := "6abb2a6a468dcdc4d1aa17c176e018d39c4e245945c679582fc53909a29a663f", func := "polyglot/polyglotlaw10.AckCodes", spec := "ackCodes", inPlace := ["internal/bytealg.IndexByteString", "internal/bytealg.IndexString"], unfollowed := true, recurses := true, named := ["internal/bytealg.MaxLen"], apart := false, narrowed := true }
def AckCodesUptoSaid : Prop := ackCodesUptoRow.holds Try.pinned (OpenSpec.upto ackCodesSpec)

/-- 'polyglotlaw10.AckNext', WHERE WHAT IT READS IS OF BULK AT MOST 1048576: true; the input reads as it did. -/
def ackNextUptoRow : OpenClaim := { program := "ytnbgmpfldoaodaa", sum := "6abb2a6a468dcdc4d1aa17c176e018d39c4e245945c679582fc53909a29a663f", func := "polyglot/polyglotlaw10.AckNext", spec := "ackNext", inPlace := ["internal/bytealg.IndexByteString", "internal/bytealg.IndexString"], unfollowed := true, recurses := true, named := ["internal/bytealg.MaxLen"], apart := false, narrowed := true }
def AckNextUptoSaid : Prop := ackNextUptoRow.holds Try.pinned (OpenSpec.upto ackNextSpec)

/-- 'polyglotlaw12.ControlCodes', WHERE WHAT IT READS IS OF BULK AT MOST 1048576: true; the input reads as it did. -/
def controlCodesUptoRow : OpenClaim := { program := "ytnbgmpfldoaodaa", sum := "6abb2a6a468dcdc4d1aa17c176e018d39c4e245945c679582fc53909a29a663f", func := "polyglot/polyglotlaw12.ControlCodes", spec := "controlCodes", inPlace := ["internal/bytealg.IndexByteString", "internal/bytealg.IndexString"], unfollowed := true, recurses := true, named := ["internal/bytealg.MaxLen"], apart := false, narrowed := true }
def ControlCodesUptoSaid : Prop := controlCodesUptoRow.holds Try.pinned (OpenSpec.upto controlCodesSpec)

/-- 'polyglotlaw12.ControlAcks', WHERE WHAT IT READS IS OF BULK AT MOST 1048576: true; the input reads as it did. -/
def controlAcksUptoRow : OpenClaim := { program := "ytnbgmpfldoaodaa", sum := "6abb2a6a468dcdc4d1aa17c176e018d39c4e245945c679582fc53909a29a663f", func := "polyglot/polyglotlaw12.ControlAcks", spec := "controlAcks", inPlace := ["internal/bytealg.IndexByteString", "internal/bytealg.IndexString"], unfollowed := true, recurses := true, named := ["internal/bytealg.MaxLen"], apart := false, narrowed := true }
def ControlAcksUptoSaid : Prop := controlAcksUptoRow.holds Try.pinned (OpenSpec.upto controlAcksSpec)

/-- 'polyglotlaw08.ConnectAnswers', WHERE WHAT IT READS IS OF BULK AT MOST 1048576: true; the input reads as it did. -/
def connectAnswersUptoRow : OpenClaim := { program := "ytnbgmpfldoaodaa", sum := "6abb2a6a468dcdc4d1aa17c176e018d39c4e245945c679582fc53909a29a663f", func := "polyglot/polyglotlaw08.ConnectAnswers", spec := "connectAnswers", inPlace := ["internal/bytealg.IndexByteString", "internal/bytealg.IndexString", "internal/abi.NoEscape", "internal/bytealg.MakeNoZero"], unfollowed := true, recurses := true, named := ["internal/bytealg.MaxLen"], apart := false, narrowed := true }
def ConnectAnswersUptoSaid : Prop := connectAnswersUptoRow.holds Try.pinned (OpenSpec.upto connectAnswersSpec)

/-- 'polyglotlaw10.AckBack', WHERE WHAT IT READS IS OF BULK AT MOST 1048576: true; the input reads as it did. -/
def ackBackUptoRow : OpenClaim := { program := "ytnbgmpfldoaodaa", sum := "6abb2a6a468dcdc4d1aa17c176e018d39c4e245945c679582fc53909a29a663f", func := "polyglot/polyglotlaw10.AckBack", spec := "ackBack", inPlace := ["internal/bytealg.IndexByteString", "internal/bytealg.IndexString"], unfollowed := true, recurses := true, named := ["internal/bytealg.MaxLen"], apart := false, narrowed := true }
def AckBackUptoSaid : Prop := ackBackUptoRow.holds Try.pinned (OpenSpec.upto ackBackSpec)

end Rows
end Go.Proofs.Ytnbgmpfldoaodaa
