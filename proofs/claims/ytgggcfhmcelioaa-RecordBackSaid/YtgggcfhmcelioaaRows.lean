/-
  No cell of these rows narrows 'for every input' (looked for: loops, veiled, ifaces, maps, wideKeys, modest, calm, conditions, laid).
  DERIVED. THE GIVEN ROWS OF THIS SEAT. 10 by the template 'for every input the law returns true; each argument reads behind the call as it read before'; 0 by the template 'total and deterministic' (their statements: YtgggcfhmcelioaaTotals.lean).
  GIVEN WITH THE SEED: the statements are not yours to turn. If you find one false, say at which input.
  Laid BY PROGRAM, IN A SANDBOX (cutbox-rows.mjs): the forced cells as the released guide's own fill.sh prints them over the translation 19a0d7308b390ff5… (all of the seat's roots in one cut). By AI agents, Wed Nov 11 2026. No macro, syntax, notation, axiom, sorry.
-/
import Derived.Test.YtgggcfhmcelioaaChecked
import GoSem.Claim
import GoSem.ClaimJoined
import GoSem.ClaimMapViews
import Derived.JoinedTies
import Derived.KernelRfl
namespace Go.Proofs.Ytgggcfhmcelioaa
/- THE CELL 'sum', in the pinned program and in every row, IS THE sha256 OF THE DUMP (.gsa) THAT YtgggcfhmcelioaaProg.lean LOADS. Nothing in Lean hashes anything: it is a label: what it is worth is what the hold of that sum in a sandbox is worth. -/
noncomputable def Try.pinned : Pinned := { name := "ytgggcfhmcelioaa", sum := "19a0d7308b390ff5d19baaac451905e5b00d8d9d577da23c5c06eac32fe974e6", checked := Try.checked }
namespace Rows
def none {H : Type} : Left H := { results := [], args := [] }

/-- 'rovinglaw06.RecordOnce': WHATEVER THE INPUT: true; the input reads as it did. -/
def recordOnceSpec : ChangeSpec := { name := "recordOnce", fn := fun _ => fun
  | [d1, d2] => { results := [.lit (.bool true)], args := [d1, d2] }
  | _ => none }
def recordOnceRow : OpenClaim := { program := "ytgggcfhmcelioaa", sum := "19a0d7308b390ff5d19baaac451905e5b00d8d9d577da23c5c06eac32fe974e6", func := "roving/rovinglaw06.RecordOnce", spec := "recordOnce", apart := false }
def RecordOnceSaid : Prop := recordOnceRow.holds Try.pinned (OpenSpec.ofChange recordOnceSpec)

/-- ITS FALSE NEIGHBOUR: 'it returns false'. Refute it at one input. -/
def recordOnceWrong : ChangeSpec := { name := "recordOnce", fn := fun _ => fun
  | [d1, d2] => { results := [.lit (.bool false)], args := [d1, d2] }
  | _ => none }
def RecordOnceWrongFalsely : Prop := recordOnceRow.holds Try.pinned (OpenSpec.ofChange recordOnceWrong)

/-- 'rovinglaw02.FieldsBack': WHATEVER THE INPUT: true; the input reads as it did. -/
def fieldsBackSpec : ChangeSpec := { name := "fieldsBack", fn := fun _ => fun
  | [d1, d2] => { results := [.lit (.bool true)], args := [d1, d2] }
  | _ => none }
def fieldsBackRow : OpenClaim := { program := "ytgggcfhmcelioaa", sum := "19a0d7308b390ff5d19baaac451905e5b00d8d9d577da23c5c06eac32fe974e6", func := "roving/rovinglaw02.FieldsBack", spec := "fieldsBack", unfollowed := true, recurses := true, apart := false }
def FieldsBackSaid : Prop := fieldsBackRow.holds Try.pinned (OpenSpec.ofChange fieldsBackSpec)

/-- ITS FALSE NEIGHBOUR: 'it returns false'. Refute it at one input. -/
def fieldsBackWrong : ChangeSpec := { name := "fieldsBack", fn := fun _ => fun
  | [d1, d2] => { results := [.lit (.bool false)], args := [d1, d2] }
  | _ => none }
def FieldsBackWrongFalsely : Prop := fieldsBackRow.holds Try.pinned (OpenSpec.ofChange fieldsBackWrong)

/-- 'rovinglaw02.FieldsWrite': WHATEVER THE INPUT: true; the input reads as it did. -/
def fieldsWriteSpec : ChangeSpec := { name := "fieldsWrite", fn := fun _ => fun
  | [d1, d2, d3, d4] => { results := [.lit (.bool true)], args := [d1, d2, d3, d4] }
  | _ => none }
def fieldsWriteRow : OpenClaim := { program := "ytgggcfhmcelioaa", sum := "19a0d7308b390ff5d19baaac451905e5b00d8d9d577da23c5c06eac32fe974e6", func := "roving/rovinglaw02.FieldsWrite", spec := "fieldsWrite", unfollowed := true, recurses := true, apart := false }
def FieldsWriteSaid : Prop := fieldsWriteRow.holds Try.pinned (OpenSpec.ofChange fieldsWriteSpec)

/-- ITS FALSE NEIGHBOUR: 'it returns false'. Refute it at one input. -/
def fieldsWriteWrong : ChangeSpec := { name := "fieldsWrite", fn := fun _ => fun
  | [d1, d2, d3, d4] => { results := [.lit (.bool false)], args := [d1, d2, d3, d4] }
  | _ => none }
def FieldsWriteWrongFalsely : Prop := fieldsWriteRow.holds Try.pinned (OpenSpec.ofChange fieldsWriteWrong)

/-- 'rovinglaw06.RecordBack': WHATEVER THE INPUT: true; the input reads as it did. -/
def recordBackSpec : ChangeSpec := { name := "recordBack", fn := fun _ => fun
  | [d1, d2, d3, d4] => { results := [.lit (.bool true)], args := [d1, d2, d3, d4] }
  | _ => none }
def recordBackRow : OpenClaim := { program := "ytgggcfhmcelioaa", sum := "19a0d7308b390ff5d19baaac451905e5b00d8d9d577da23c5c06eac32fe974e6", func := "roving/rovinglaw06.RecordBack", spec := "recordBack", unfollowed := true, recurses := true, apart := false }
def RecordBackSaid : Prop := recordBackRow.holds Try.pinned (OpenSpec.ofChange recordBackSpec)

/-- ITS FALSE NEIGHBOUR: 'it returns false'. Refute it at one input. -/
def recordBackWrong : ChangeSpec := { name := "recordBack", fn := fun _ => fun
  | [d1, d2, d3, d4] => { results := [.lit (.bool false)], args := [d1, d2, d3, d4] }
  | _ => none }
def RecordBackWrongFalsely : Prop := recordBackRow.holds Try.pinned (OpenSpec.ofChange recordBackWrong)

/-- 'rovinglaw07.EntryTells': WHATEVER THE INPUT: true; the input reads as it did. -/
def entryTellsSpec : ChangeSpec := { name := "entryTells", fn := fun _ => fun
  | [d1, d2, d3, d4] => { results := [.lit (.bool true)], args := [d1, d2, d3, d4] }
  | _ => none }
def entryTellsRow : OpenClaim := { program := "ytgggcfhmcelioaa", sum := "19a0d7308b390ff5d19baaac451905e5b00d8d9d577da23c5c06eac32fe974e6", func := "roving/rovinglaw07.EntryTells", spec := "entryTells", unfollowed := true, recurses := true, apart := false }
def EntryTellsSaid : Prop := entryTellsRow.holds Try.pinned (OpenSpec.ofChange entryTellsSpec)

/-- ITS FALSE NEIGHBOUR: 'it returns false'. Refute it at one input. -/
def entryTellsWrong : ChangeSpec := { name := "entryTells", fn := fun _ => fun
  | [d1, d2, d3, d4] => { results := [.lit (.bool false)], args := [d1, d2, d3, d4] }
  | _ => none }
def EntryTellsWrongFalsely : Prop := entryTellsRow.holds Try.pinned (OpenSpec.ofChange entryTellsWrong)

/-- 'rovinglaw07.EntryReads': WHATEVER THE INPUT: true; the input reads as it did. -/
def entryReadsSpec : ChangeSpec := { name := "entryReads", fn := fun _ => fun
  | [d] => { results := [.lit (.bool true)], args := [d] }
  | _ => none }
def entryReadsRow : OpenClaim := { program := "ytgggcfhmcelioaa", sum := "19a0d7308b390ff5d19baaac451905e5b00d8d9d577da23c5c06eac32fe974e6", func := "roving/rovinglaw07.EntryReads", spec := "entryReads", unfollowed := true, recurses := true, apart := false }
def EntryReadsSaid : Prop := entryReadsRow.holds Try.pinned (OpenSpec.ofChange entryReadsSpec)

/-- ITS FALSE NEIGHBOUR: 'it returns false'. Refute it at one input. -/
def entryReadsWrong : ChangeSpec := { name := "entryReads", fn := fun _ => fun
  | [d] => { results := [.lit (.bool false)], args := [d] }
  | _ => none }
def EntryReadsWrongFalsely : Prop := entryReadsRow.holds Try.pinned (OpenSpec.ofChange entryReadsWrong)

/-- 'rovinglaw07.EntryBack': WHATEVER THE INPUT: true; the input reads as it did. -/
def entryBackSpec : ChangeSpec := { name := "entryBack", fn := fun _ => fun
  | [d1, d2] => { results := [.lit (.bool true)], args := [d1, d2] }
  | _ => none }
def entryBackRow : OpenClaim := { program := "ytgggcfhmcelioaa", sum := "19a0d7308b390ff5d19baaac451905e5b00d8d9d577da23c5c06eac32fe974e6", func := "roving/rovinglaw07.EntryBack", spec := "entryBack", unfollowed := true, recurses := true, apart := false }
def EntryBackSaid : Prop := entryBackRow.holds Try.pinned (OpenSpec.ofChange entryBackSpec)

/-- ITS FALSE NEIGHBOUR: 'it returns false'. Refute it at one input. -/
def entryBackWrong : ChangeSpec := { name := "entryBack", fn := fun _ => fun
  | [d1, d2] => { results := [.lit (.bool false)], args := [d1, d2] }
  | _ => none }
def EntryBackWrongFalsely : Prop := entryBackRow.holds Try.pinned (OpenSpec.ofChange entryBackWrong)

/-- 'rovinglaw07.EntryOnly': WHATEVER THE INPUT: true; the input reads as it did. -/
def entryOnlySpec : ChangeSpec := { name := "entryOnly", fn := fun _ => fun
  | [d1, d2] => { results := [.lit (.bool true)], args := [d1, d2] }
  | _ => none }
def entryOnlyRow : OpenClaim := { program := "ytgggcfhmcelioaa", sum := "19a0d7308b390ff5d19baaac451905e5b00d8d9d577da23c5c06eac32fe974e6", func := "roving/rovinglaw07.EntryOnly", spec := "entryOnly", unfollowed := true, recurses := true, apart := false }
def EntryOnlySaid : Prop := entryOnlyRow.holds Try.pinned (OpenSpec.ofChange entryOnlySpec)

/-- ITS FALSE NEIGHBOUR: 'it returns false'. Refute it at one input. -/
def entryOnlyWrong : ChangeSpec := { name := "entryOnly", fn := fun _ => fun
  | [d1, d2] => { results := [.lit (.bool false)], args := [d1, d2] }
  | _ => none }
def EntryOnlyWrongFalsely : Prop := entryOnlyRow.holds Try.pinned (OpenSpec.ofChange entryOnlyWrong)

/-- 'rovinglaw07.EntrySeen': WHATEVER THE INPUT: true; the input reads as it did. -/
def entrySeenSpec : ChangeSpec := { name := "entrySeen", fn := fun _ => fun
  | [d1, d2, d3] => { results := [.lit (.bool true)], args := [d1, d2, d3] }
  | _ => none }
def entrySeenRow : OpenClaim := { program := "ytgggcfhmcelioaa", sum := "19a0d7308b390ff5d19baaac451905e5b00d8d9d577da23c5c06eac32fe974e6", func := "roving/rovinglaw07.EntrySeen", spec := "entrySeen", unfollowed := true, recurses := true, apart := false }
def EntrySeenSaid : Prop := entrySeenRow.holds Try.pinned (OpenSpec.ofChange entrySeenSpec)

/-- ITS FALSE NEIGHBOUR: 'it returns false'. Refute it at one input. -/
def entrySeenWrong : ChangeSpec := { name := "entrySeen", fn := fun _ => fun
  | [d1, d2, d3] => { results := [.lit (.bool false)], args := [d1, d2, d3] }
  | _ => none }
def EntrySeenWrongFalsely : Prop := entrySeenRow.holds Try.pinned (OpenSpec.ofChange entrySeenWrong)

/-- 'rovinglaw07.EntryRows': WHATEVER THE INPUT: true; the input reads as it did. -/
def entryRowsSpec : ChangeSpec := { name := "entryRows", fn := fun _ => fun
  | [d1, d2] => { results := [.lit (.bool true)], args := [d1, d2] }
  | _ => none }
def entryRowsRow : OpenClaim := { program := "ytgggcfhmcelioaa", sum := "19a0d7308b390ff5d19baaac451905e5b00d8d9d577da23c5c06eac32fe974e6", func := "roving/rovinglaw07.EntryRows", spec := "entryRows", unfollowed := true, recurses := true, apart := false }
def EntryRowsSaid : Prop := entryRowsRow.holds Try.pinned (OpenSpec.ofChange entryRowsSpec)

/-- ITS FALSE NEIGHBOUR: 'it returns false'. Refute it at one input. -/
def entryRowsWrong : ChangeSpec := { name := "entryRows", fn := fun _ => fun
  | [d1, d2] => { results := [.lit (.bool false)], args := [d1, d2] }
  | _ => none }
def EntryRowsWrongFalsely : Prop := entryRowsRow.holds Try.pinned (OpenSpec.ofChange entryRowsWrong)

/- THE SECOND FORM. 'bulk': how many values and letters a reading holds, each counted each time it is reached (what is shared counts as often as it is met; a slice's spare places count too). A statement '..UptoSaid' is the law's where the arguments, and the package variables that the reading takes, are together of bulk at most 1048576: NARROWER than '..Said'. Prove '..Said' where nothing that the law and all that it calls make is longer than what came in: it says more and counts as full. Else prove '..UptoSaid'. A law counts once. -/
mutual
def uptoBulk {H : Type} : DataW H → Nat
  | .lit (.string bytes) => bytes.length + 1
  | .lit _ => 1
  | .nil => 1
  | .ptr d => uptoBulk d + 1
  | .slice elems spare => uptoBulkAll elems + uptoBulkAll spare + 1
  | .agg parts => uptoBulkAll parts + 1
  | .iface _ d => uptoBulk d + 1
  | .map entries => uptoBulkEntries entries + 1
  | .held _ => 1
def uptoBulkAll {H : Type} : List (DataW H) → Nat
  | [] => 0
  | d :: r => uptoBulk d + uptoBulkAll r
def uptoBulkEntries {H : Type} : List (Lit × DataW H) → Nat
  | [] => 0
  | x :: r => uptoBulkEntry x + uptoBulkEntries r
def uptoBulkEntry {H : Type} : Lit × DataW H → Nat
  | (.string bytes, d) => bytes.length + uptoBulk d + 1
  | (_, d) => uptoBulk d + 1
 end
def uptoSmall : (H : Type) → List (DataW H) → Bool := fun _ ds => decide (uptoBulkAll ds ≤ 1048576)
def OpenSpec.upto (s : _root_.Go.ChangeSpec) : _root_.Go.OpenSpec := { _root_.Go.OpenSpec.ofChange s with cond := some uptoSmall }

/-- 'rovinglaw06.RecordOnce', WHERE WHAT IT READS IS OF BULK AT MOST 1048576: true; the input reads as it did. -/
def recordOnceUptoRow : OpenClaim := { program := "ytgggcfhmcelioaa", sum := "19a0d7308b390ff5d19baaac451905e5b00d8d9d577da23c5c06eac32fe974e6", func := "roving/rovinglaw06.RecordOnce", spec := "recordOnce", apart := false, narrowed := true }
def RecordOnceUptoSaid : Prop := recordOnceUptoRow.holds Try.pinned (OpenSpec.upto recordOnceSpec)

/-- 'rovinglaw02.FieldsBack', WHERE WHAT IT READS IS OF BULK AT MOST 1048576: true; the input reads as it did. -/
def fieldsBackUptoRow : OpenClaim := { program := "ytgggcfhmcelioaa", sum := "19a0d7308b390ff5d19baaac451905e5b00d8d9d577da23c5c06eac32fe974e6", func := "roving/rovinglaw02.FieldsBack", spec := "fieldsBack", unfollowed := true, recurses := true, apart := false, narrowed := true }
def FieldsBackUptoSaid : Prop := fieldsBackUptoRow.holds Try.pinned (OpenSpec.upto fieldsBackSpec)

/-- 'rovinglaw02.FieldsWrite', WHERE WHAT IT READS IS OF BULK AT MOST 1048576: true; the input reads as it did. -/
def fieldsWriteUptoRow : OpenClaim := { program := "ytgggcfhmcelioaa", sum := "19a0d7308b390ff5d19baaac451905e5b00d8d9d577da23c5c06eac32fe974e6", func := "roving/rovinglaw02.FieldsWrite", spec := "fieldsWrite", unfollowed := true, recurses := true, apart := false, narrowed := true }
def FieldsWriteUptoSaid : Prop := fieldsWriteUptoRow.holds Try.pinned (OpenSpec.upto fieldsWriteSpec)

/-- 'rovinglaw06.RecordBack', WHERE WHAT IT READS IS OF BULK AT MOST 1048576: true; the input reads as it did. -/
def recordBackUptoRow : OpenClaim := { program := "ytgggcfhmcelioaa", sum := "19a0d7308b390ff5d19baaac451905e5b00d8d9d577da23c5c06eac32fe974e6", func := "roving/rovinglaw06.RecordBack", spec := "recordBack", unfollowed := true, recurses := true, apart := false, narrowed := true }
def RecordBackUptoSaid : Prop := recordBackUptoRow.holds Try.pinned (OpenSpec.upto recordBackSpec)

/-- 'rovinglaw07.EntryTells', WHERE WHAT IT READS IS OF BULK AT MOST 1048576: true; the input reads as it did. -/
def entryTellsUptoRow : OpenClaim := { program := "ytgggcfhmcelioaa", sum := "19a0d7308b390ff5d19baaac451905e5b00d8d9d577da23c5c06eac32fe974e6", func := "roving/rovinglaw07.EntryTells", spec := "entryTells", unfollowed := true, recurses := true, apart := false, narrowed := true }
def EntryTellsUptoSaid : Prop := entryTellsUptoRow.holds Try.pinned (OpenSpec.upto entryTellsSpec)

/-- 'rovinglaw07.EntryReads', WHERE WHAT IT READS IS OF BULK AT MOST 1048576: true; the input reads as it did. -/
def entryReadsUptoRow : OpenClaim := { program := "ytgggcfhmcelioaa", sum := "19a0d7308b390ff5d19baaac451905e5b00d8d9d577da23c5c06eac32fe974e6", func := "roving/rovinglaw07.EntryReads", spec := "entryReads", unfollowed := true, recurses := true, apart := false, narrowed := true }
def EntryReadsUptoSaid : Prop := entryReadsUptoRow.holds Try.pinned (OpenSpec.upto entryReadsSpec)

/-- 'rovinglaw07.EntryBack', WHERE WHAT IT READS IS OF BULK AT MOST 1048576: true; the input reads as it did. -/
def entryBackUptoRow : OpenClaim := { program := "ytgggcfhmcelioaa", sum := "19a0d7308b390ff5d19baaac451905e5b00d8d9d577da23c5c06eac32fe974e6", func := "roving/rovinglaw07.EntryBack", spec := "entryBack", unfollowed := true, recurses := true, apart := false, narrowed := true }
def EntryBackUptoSaid : Prop := entryBackUptoRow.holds Try.pinned (OpenSpec.upto entryBackSpec)

/-- 'rovinglaw07.EntryOnly', WHERE WHAT IT READS IS OF BULK AT MOST 1048576: true; the input reads as it did. -/
def entryOnlyUptoRow : OpenClaim := { program := "ytgggcfhmcelioaa", sum := "19a0d7308b390ff5d19baaac451905e5b00d8d9d577da23c5c06eac32fe974e6", func := "roving/rovinglaw07.EntryOnly", spec := "entryOnly", unfollowed := true, recurses := true, apart := false, narrowed := true }
def EntryOnlyUptoSaid : Prop := entryOnlyUptoRow.holds Try.pinned (OpenSpec.upto entryOnlySpec)

/-- 'rovinglaw07.EntrySeen', WHERE WHAT IT READS IS OF BULK AT MOST 1048576: true; the input reads as it did. -/
def entrySeenUptoRow : OpenClaim := { program := "ytgggcfhmcelioaa", sum := "19a0d7308b390ff5d19baaac451905e5b00d8d9d577da23c5c06eac32fe974e6", func := "roving/rovinglaw07.EntrySeen", spec := "entrySeen", unfollowed := true, recurses := true, apart := false, narrowed := true }
def EntrySeenUptoSaid : Prop := entrySeenUptoRow.holds Try.pinned (OpenSpec.upto entrySeenSpec)

/-- 'rovinglaw07.EntryRows', WHERE WHAT IT READS IS OF BULK AT MOST 1048576: true; the input reads as it did. -/
def entryRowsUptoRow : OpenClaim := { program := "ytgggcfhmcelioaa", sum := "19a0d7308b390ff5d19baaac451905e5b00d8d9d577da23c5c06eac32fe974e6", func := "roving/rovinglaw07.EntryRows", spec := "entryRows", unfollowed := true, recurses := true, apart := false, narrowed := true }
def EntryRowsUptoSaid : Prop := entryRowsUptoRow.holds Try.pinned (OpenSpec.upto entryRowsSpec)

end Rows
end Go.Proofs.Ytgggcfhmcelioaa
