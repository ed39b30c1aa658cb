/-
  No cell of these rows narrows 'for every input' (looked for: loops, veiled, ifaces, maps, wideKeys, modest, calm, conditions, laid).
  DERIVED. THE GIVEN ROWS OF THIS SEAT. 6 by the template 'for every input the law returns true; each argument reads behind the call as it read before'; 0 by the template 'total and deterministic' (their statements: YtjlihigodggfcaaTotals.lean).
  GIVEN WITH THE SEED: the statements are not yours to turn. If you find one false, say at which input.
  Laid BY PROGRAM, IN A SANDBOX (cutbox-rows.mjs): the forced cells as the released guide's own fill.sh prints them over the translation 64efd4eb8d84bf92… (all of the seat's roots in one cut). By AI agents, Wed Nov 11 2026. No macro, syntax, notation, axiom, sorry.
-/
import Derived.Test.YtjlihigodggfcaaChecked
import GoSem.Claim
import GoSem.ClaimJoined
import GoSem.ClaimMapViews
import Derived.JoinedTies
import Derived.KernelRfl
namespace Go.Proofs.Ytjlihigodggfcaa
/- THE CELL 'sum', in the pinned program and in every row, IS THE sha256 OF THE DUMP (.gsa) THAT YtjlihigodggfcaaProg.lean LOADS. Nothing in Lean hashes anything: it is a label: what it is worth is what the hold of that sum in a sandbox is worth. -/
noncomputable def Try.pinned : Pinned := { name := "ytjlihigodggfcaa", sum := "64efd4eb8d84bf92a235c5362bf5561cf8021d655a035a916da738b30570d439", checked := Try.checked }
namespace Rows
def none {H : Type} : Left H := { results := [], args := [] }

/-- 'estraylaw18.ArenaFull': WHATEVER THE INPUT: true; the input reads as it did. -/
def arenaFullSpec : ChangeSpec := { name := "arenaFull", fn := fun _ => fun
  | [d1, d2, d3] => { results := [.lit (.bool true)], args := [d1, d2, d3] }
  | _ => none }
def arenaFullRow : OpenClaim := { program := "ytjlihigodggfcaa", sum := "64efd4eb8d84bf92a235c5362bf5561cf8021d655a035a916da738b30570d439", func := "estray/estraylaw18.ArenaFull", spec := "arenaFull", unfollowed := true, recurses := true, plainKeys := false, apart := false }
def ArenaFullSaid : Prop := arenaFullRow.holds Try.pinned (OpenSpec.ofChange arenaFullSpec)

/-- ITS FALSE NEIGHBOUR: 'it returns false'. Refute it at one input. -/
def arenaFullWrong : ChangeSpec := { name := "arenaFull", fn := fun _ => fun
  | [d1, d2, d3] => { results := [.lit (.bool false)], args := [d1, d2, d3] }
  | _ => none }
def ArenaFullWrongFalsely : Prop := arenaFullRow.holds Try.pinned (OpenSpec.ofChange arenaFullWrong)

/-- 'estraylaw18.ArenaThere': WHATEVER THE INPUT: true; the input reads as it did. -/
def arenaThereSpec : ChangeSpec := { name := "arenaThere", fn := fun _ => fun
  | [d1, d2, d3] => { results := [.lit (.bool true)], args := [d1, d2, d3] }
  | _ => none }
def arenaThereRow : OpenClaim := { program := "ytjlihigodggfcaa", sum := "64efd4eb8d84bf92a235c5362bf5561cf8021d655a035a916da738b30570d439", func := "estray/estraylaw18.ArenaThere", spec := "arenaThere", unfollowed := true, recurses := true, plainKeys := false, apart := false }
def ArenaThereSaid : Prop := arenaThereRow.holds Try.pinned (OpenSpec.ofChange arenaThereSpec)

/-- ITS FALSE NEIGHBOUR: 'it returns false'. Refute it at one input. -/
def arenaThereWrong : ChangeSpec := { name := "arenaThere", fn := fun _ => fun
  | [d1, d2, d3] => { results := [.lit (.bool false)], args := [d1, d2, d3] }
  | _ => none }
def ArenaThereWrongFalsely : Prop := arenaThereRow.holds Try.pinned (OpenSpec.ofChange arenaThereWrong)

/-- 'estraylaw18.ArenaGraph': WHATEVER THE INPUT: true; the input reads as it did. -/
def arenaGraphSpec : ChangeSpec := { name := "arenaGraph", fn := fun _ => fun
  | [d1, d2, d3] => { results := [.lit (.bool true)], args := [d1, d2, d3] }
  | _ => none }
def arenaGraphRow : OpenClaim := { program := "ytjlihigodggfcaa", sum := "64efd4eb8d84bf92a235c5362bf5561cf8021d655a035a916da738b30570d439", func := "estray/estraylaw18.ArenaGraph", spec := "arenaGraph", unfollowed := true, recurses := true, plainKeys := false, apart := false }
def ArenaGraphSaid : Prop := arenaGraphRow.holds Try.pinned (OpenSpec.ofChange arenaGraphSpec)

/-- ITS FALSE NEIGHBOUR: 'it returns false'. Refute it at one input. -/
def arenaGraphWrong : ChangeSpec := { name := "arenaGraph", fn := fun _ => fun
  | [d1, d2, d3] => { results := [.lit (.bool false)], args := [d1, d2, d3] }
  | _ => none }
def ArenaGraphWrongFalsely : Prop := arenaGraphRow.holds Try.pinned (OpenSpec.ofChange arenaGraphWrong)

/-- 'estraylaw18.ArenaRefuses': WHATEVER THE INPUT: true; the input reads as it did. -/
def arenaRefusesSpec : ChangeSpec := { name := "arenaRefuses", fn := fun _ => fun
  | [d1, d2, d3, d4] => { results := [.lit (.bool true)], args := [d1, d2, d3, d4] }
  | _ => none }
def arenaRefusesRow : OpenClaim := { program := "ytjlihigodggfcaa", sum := "64efd4eb8d84bf92a235c5362bf5561cf8021d655a035a916da738b30570d439", func := "estray/estraylaw18.ArenaRefuses", spec := "arenaRefuses", unfollowed := true, recurses := true, plainKeys := false, apart := false }
def ArenaRefusesSaid : Prop := arenaRefusesRow.holds Try.pinned (OpenSpec.ofChange arenaRefusesSpec)

/-- ITS FALSE NEIGHBOUR: 'it returns false'. Refute it at one input. -/
def arenaRefusesWrong : ChangeSpec := { name := "arenaRefuses", fn := fun _ => fun
  | [d1, d2, d3, d4] => { results := [.lit (.bool false)], args := [d1, d2, d3, d4] }
  | _ => none }
def ArenaRefusesWrongFalsely : Prop := arenaRefusesRow.holds Try.pinned (OpenSpec.ofChange arenaRefusesWrong)

/-- 'estraylaw18.ArenaNil': WHATEVER THE INPUT: true; the input reads as it did. -/
def arenaNilSpec : ChangeSpec := { name := "arenaNil", fn := fun _ => fun
  | [d1, d2] => { results := [.lit (.bool true)], args := [d1, d2] }
  | _ => none }
def arenaNilRow : OpenClaim := { program := "ytjlihigodggfcaa", sum := "64efd4eb8d84bf92a235c5362bf5561cf8021d655a035a916da738b30570d439", func := "estray/estraylaw18.ArenaNil", spec := "arenaNil", unfollowed := true, recurses := true, plainKeys := false, apart := false }
def ArenaNilSaid : Prop := arenaNilRow.holds Try.pinned (OpenSpec.ofChange arenaNilSpec)

/-- ITS FALSE NEIGHBOUR: 'it returns false'. Refute it at one input. -/
def arenaNilWrong : ChangeSpec := { name := "arenaNil", fn := fun _ => fun
  | [d1, d2] => { results := [.lit (.bool false)], args := [d1, d2] }
  | _ => none }
def ArenaNilWrongFalsely : Prop := arenaNilRow.holds Try.pinned (OpenSpec.ofChange arenaNilWrong)

/-- 'estraylaw18.ArenaCopies': WHATEVER THE INPUT: true; the input reads as it did. -/
def arenaCopiesSpec : ChangeSpec := { name := "arenaCopies", fn := fun _ => fun
  | [d1, d2, d3, d4] => { results := [.lit (.bool true)], args := [d1, d2, d3, d4] }
  | _ => none }
def arenaCopiesRow : OpenClaim := { program := "ytjlihigodggfcaa", sum := "64efd4eb8d84bf92a235c5362bf5561cf8021d655a035a916da738b30570d439", func := "estray/estraylaw18.ArenaCopies", spec := "arenaCopies", unfollowed := true, recurses := true, plainKeys := false, apart := false }
def ArenaCopiesSaid : Prop := arenaCopiesRow.holds Try.pinned (OpenSpec.ofChange arenaCopiesSpec)

/-- ITS FALSE NEIGHBOUR: 'it returns false'. Refute it at one input. -/
def arenaCopiesWrong : ChangeSpec := { name := "arenaCopies", fn := fun _ => fun
  | [d1, d2, d3, d4] => { results := [.lit (.bool false)], args := [d1, d2, d3, d4] }
  | _ => none }
def ArenaCopiesWrongFalsely : Prop := arenaCopiesRow.holds Try.pinned (OpenSpec.ofChange arenaCopiesWrong)

/- THE SECOND FORM. 'bulk': how many values and letters a reading holds, each counted each time it is reached (what is shared counts as often as it is met; a slice's spare places count too). A statement '..UptoSaid' is the law's where the arguments, and the package variables that the reading takes, are together of bulk at most 1048576: NARROWER than '..Said'. Prove '..Said' where nothing that the law and all that it calls make is longer than what came in: it says more and counts as full. Else prove '..UptoSaid'. A law counts once. -/
mutual
def uptoBulk {H : Type} : DataW H → Nat
  | .lit (.string bytes) => bytes.length + 1
  | .lit _ => 1
  | .nil => 1
  | .ptr d => uptoBulk d + 1
  | .slice elems spare => uptoBulkAll elems + uptoBulkAll spare + 1
  | .agg parts => uptoBulkAll parts + 1
  | .iface _ d => uptoBulk d + 1
  | .map entries => uptoBulkEntries entries + 1
  | .held _ => 1
def uptoBulkAll {H : Type} : List (DataW H) → Nat
  | [] => 0
  | d :: r => uptoBulk d + uptoBulkAll r
def uptoBulkEntries {H : Type} : List (Lit × DataW H) → Nat
  | [] => 0
  | x :: r => uptoBulkEntry x + uptoBulkEntries r
def uptoBulkEntry {H : Type} : Lit × DataW H → Nat
  | (.string bytes, d) => bytes.length + uptoBulk d + 1
  | (_, d) => uptoBulk d + 1
 end
def uptoSmall : (H : Type) → List (DataW H) → Bool := fun _ ds => decide (uptoBulkAll ds ≤ 1048576)
def OpenSpec.upto (s : _root_.Go.ChangeSpec) : _root_.Go.OpenSpec := { _root_.Go.OpenSpec.ofChange s with cond := some uptoSmall }

/-- 'estraylaw18.ArenaFull', WHERE WHAT IT READS IS OF BULK AT MOST 1048576: true; the input reads as it did. -/
def arenaFullUptoRow : OpenClaim := { program := "ytjlihigodggfcaa", sum := "64efd4eb8d84bf92a235c5362bf5561cf8021d655a035a916da738b30570d439", func := "estray/estraylaw18.ArenaFull", spec := "arenaFull", unfollowed := true, recurses := true, plainKeys := false, apart := false, narrowed := true }
def ArenaFullUptoSaid : Prop := arenaFullUptoRow.holds Try.pinned (OpenSpec.upto arenaFullSpec)

/-- 'estraylaw18.ArenaThere', WHERE WHAT IT READS IS OF BULK AT MOST 1048576: true; the input reads as it did. -/
def arenaThereUptoRow : OpenClaim := { program := "ytjlihigodggfcaa", sum := "64efd4eb8d84bf92a235c5362bf5561cf8021d655a035a916da738b30570d439", func := "estray/estraylaw18.ArenaThere", spec := "arenaThere", unfollowed := true, recurses := true, plainKeys := false, apart := false, narrowed := true }
def ArenaThereUptoSaid : Prop := arenaThereUptoRow.holds Try.pinned (OpenSpec.upto arenaThereSpec)

/-- 'estraylaw18.ArenaGraph', WHERE WHAT IT READS IS OF BULK AT MOST 1048576: true; the input reads as it did. -/
def arenaGraphUptoRow : OpenClaim := { program := "ytjlihigodggfcaa", sum := "64efd4eb8d84bf92a235c5362bf5561cf8021d655a035a916da738b30570d439", func := "estray/estraylaw18.ArenaGraph", spec := "arenaGraph", unfollowed := true, recurses := true, plainKeys := false, apart := false, narrowed := true }
def ArenaGraphUptoSaid : Prop := arenaGraphUptoRow.holds Try.pinned (OpenSpec.upto arenaGraphSpec)

/-- 'estraylaw18.ArenaRefuses', WHERE WHAT IT READS IS OF BULK AT MOST 1048576: true; the input reads as it did. -/
def arenaRefusesUptoRow : OpenClaim := { program := "ytjlihigodggfcaa", sum := "64efd4eb8d84bf92a235c5362bf5561cf8021d655a035a916da738b30570d439", func := "estray/estraylaw18.ArenaRefuses", spec := "arenaRefuses", unfollowed := true, recurses := true, plainKeys := false, apart := false, narrowed := true }
def ArenaRefusesUptoSaid : Prop := arenaRefusesUptoRow.holds Try.pinned (OpenSpec.upto arenaRefusesSpec)

/-- 'estraylaw18.ArenaNil', WHERE WHAT IT READS IS OF BULK AT MOST 1048576: true; the input reads as it did. -/
def arenaNilUptoRow : OpenClaim := { program := "ytjlihigodggfcaa", sum := "64efd4eb8d84bf92a235c5362bf5561cf8021d655a035a916da738b30570d439", func := "estray/estraylaw18.ArenaNil", spec := "arenaNil", unfollowed := true, recurses := true, plainKeys := false, apart := false, narrowed := true }
def ArenaNilUptoSaid : Prop := arenaNilUptoRow.holds Try.pinned (OpenSpec.upto arenaNilSpec)

/-- 'estraylaw18.ArenaCopies', WHERE WHAT IT READS IS OF BULK AT MOST 1048576: true; the input reads as it did. -/
def arenaCopiesUptoRow : OpenClaim := { program := "ytjlihigodggfcaa", sum := "64efd4eb8d84bf92a235c5362bf5561cf8021d655a035a916da738b30570d439", func := "estray/estraylaw18.ArenaCopies", spec := "arenaCopies", unfollowed := true, recurses := true, plainKeys := false, apart := false, narrowed := true }
def ArenaCopiesUptoSaid : Prop := arenaCopiesUptoRow.holds Try.pinned (OpenSpec.upto arenaCopiesSpec)

end Rows
end Go.Proofs.Ytjlihigodggfcaa
