/-
  No cell of these rows narrows 'for every input' (looked for: loops, veiled, ifaces, maps, wideKeys, modest, calm, conditions, laid).
  DERIVED. THE GIVEN ROWS OF THIS SEAT. 4 by the template 'for every input the law returns true; each argument reads behind the call as it read before'; 0 by the template 'total and deterministic' (their statements: YtgpjanfphgjbbaaTotals.lean).
  GIVEN WITH THE SEED: the statements are not yours to turn. If you find one false, say at which input.
  Laid BY PROGRAM, IN A SANDBOX (cutbox-rows.mjs): the forced cells as the released guide's own fill.sh prints them over the translation 638225f736a9b742… (all of the seat's roots in one cut). By AI agents, Wed Nov 11 2026. No macro, syntax, notation, axiom, sorry.
-/
import Derived.Test.YtgpjanfphgjbbaaChecked
import GoSem.Claim
import GoSem.ClaimJoined
import GoSem.ClaimMapViews
import Derived.JoinedTies
import Derived.KernelRfl
namespace Go.Proofs.Ytgpjanfphgjbbaa
/- THE CELL 'sum', in the pinned program and in every row, IS THE sha256 OF THE DUMP (.gsa) THAT YtgpjanfphgjbbaaProg.lean LOADS. Nothing in Lean hashes anything: it is a label: what it is worth is what the hold of that sum in a sandbox is worth. -/
noncomputable def Try.pinned : Pinned := { name := "ytgpjanfphgjbbaa", sum := "638225f736a9b7420f3a97f080b81e1ff1eceff123b98893ad73d6c614c17d59", checked := Try.checked }
namespace Rows
def none {H : Type} : Left H := { results := [], args := [] }

/-- 'estraylaw23.ScanNil': WHATEVER THE INPUT: true; the input reads as it did. -/
def scanNilSpec : ChangeSpec := { name := "scanNil", fn := fun _ => fun
  | [d1, d2, d3] => { results := [.lit (.bool true)], args := [d1, d2, d3] }
  | _ => none }
def scanNilRow : OpenClaim := { program := "ytgpjanfphgjbbaa", sum := "638225f736a9b7420f3a97f080b81e1ff1eceff123b98893ad73d6c614c17d59", func := "estray/estraylaw23.ScanNil", spec := "scanNil", unfollowed := true, recurses := true, apart := false }
def ScanNilSaid : Prop := scanNilRow.holds Try.pinned (OpenSpec.ofChange scanNilSpec)

/-- ITS FALSE NEIGHBOUR: 'it returns false'. Refute it at one input. -/
def scanNilWrong : ChangeSpec := { name := "scanNil", fn := fun _ => fun
  | [d1, d2, d3] => { results := [.lit (.bool false)], args := [d1, d2, d3] }
  | _ => none }
def ScanNilWrongFalsely : Prop := scanNilRow.holds Try.pinned (OpenSpec.ofChange scanNilWrong)

/-- 'estraylaw23.ScanOrder': WHATEVER THE INPUT: true; the input reads as it did. -/
def scanOrderSpec : ChangeSpec := { name := "scanOrder", fn := fun _ => fun
  | [d1, d2, d3, d4, d5] => { results := [.lit (.bool true)], args := [d1, d2, d3, d4, d5] }
  | _ => none }
def scanOrderRow : OpenClaim := { program := "ytgpjanfphgjbbaa", sum := "638225f736a9b7420f3a97f080b81e1ff1eceff123b98893ad73d6c614c17d59", func := "estray/estraylaw23.ScanOrder", spec := "scanOrder", unfollowed := true, recurses := true, apart := false }
def ScanOrderSaid : Prop := scanOrderRow.holds Try.pinned (OpenSpec.ofChange scanOrderSpec)

/-- ITS FALSE NEIGHBOUR: 'it returns false'. Refute it at one input. -/
def scanOrderWrong : ChangeSpec := { name := "scanOrder", fn := fun _ => fun
  | [d1, d2, d3, d4, d5] => { results := [.lit (.bool false)], args := [d1, d2, d3, d4, d5] }
  | _ => none }
def ScanOrderWrongFalsely : Prop := scanOrderRow.holds Try.pinned (OpenSpec.ofChange scanOrderWrong)

/-- 'estraylaw23.ScanOne': WHATEVER THE INPUT: true; the input reads as it did. -/
def scanOneSpec : ChangeSpec := { name := "scanOne", fn := fun _ => fun
  | [d1, d2, d3, d4, d5] => { results := [.lit (.bool true)], args := [d1, d2, d3, d4, d5] }
  | _ => none }
def scanOneRow : OpenClaim := { program := "ytgpjanfphgjbbaa", sum := "638225f736a9b7420f3a97f080b81e1ff1eceff123b98893ad73d6c614c17d59", func := "estray/estraylaw23.ScanOne", spec := "scanOne", unfollowed := true, recurses := true, apart := false }
def ScanOneSaid : Prop := scanOneRow.holds Try.pinned (OpenSpec.ofChange scanOneSpec)

/-- ITS FALSE NEIGHBOUR: 'it returns false'. Refute it at one input. -/
def scanOneWrong : ChangeSpec := { name := "scanOne", fn := fun _ => fun
  | [d1, d2, d3, d4, d5] => { results := [.lit (.bool false)], args := [d1, d2, d3, d4, d5] }
  | _ => none }
def ScanOneWrongFalsely : Prop := scanOneRow.holds Try.pinned (OpenSpec.ofChange scanOneWrong)

/-- 'estraylaw23.ScanStays': WHATEVER THE INPUT: true; the input reads as it did. -/
def scanStaysSpec : ChangeSpec := { name := "scanStays", fn := fun _ => fun
  | [d1, d2, d3] => { results := [.lit (.bool true)], args := [d1, d2, d3] }
  | _ => none }
def scanStaysRow : OpenClaim := { program := "ytgpjanfphgjbbaa", sum := "638225f736a9b7420f3a97f080b81e1ff1eceff123b98893ad73d6c614c17d59", func := "estray/estraylaw23.ScanStays", spec := "scanStays", unfollowed := true, recurses := true, apart := false }
def ScanStaysSaid : Prop := scanStaysRow.holds Try.pinned (OpenSpec.ofChange scanStaysSpec)

/-- ITS FALSE NEIGHBOUR: 'it returns false'. Refute it at one input. -/
def scanStaysWrong : ChangeSpec := { name := "scanStays", fn := fun _ => fun
  | [d1, d2, d3] => { results := [.lit (.bool false)], args := [d1, d2, d3] }
  | _ => none }
def ScanStaysWrongFalsely : Prop := scanStaysRow.holds Try.pinned (OpenSpec.ofChange scanStaysWrong)

/- THE SECOND FORM. 'bulk': how many values and letters a reading holds, each counted each time it is reached (what is shared counts as often as it is met; a slice's spare places count too). A statement '..UptoSaid' is the law's where the arguments, and the package variables that the reading takes, are together of bulk at most 1048576: NARROWER than '..Said'. Prove '..Said' where nothing that the law and all that it calls make is longer than what came in: it says more and counts as full. Else prove '..UptoSaid'. A law counts once. -/
mutual
def uptoBulk {H : Type} : DataW H → Nat
  | .lit (.string bytes) => bytes.length + 1
  | .lit _ => 1
  | .nil => 1
  | .ptr d => uptoBulk d + 1
  | .slice elems spare => uptoBulkAll elems + uptoBulkAll spare + 1
  | .agg parts => uptoBulkAll parts + 1
  | .iface _ d => uptoBulk d + 1
  | .map entries => uptoBulkEntries entries + 1
  | .held _ => 1
def uptoBulkAll {H : Type} : List (DataW H) → Nat
  | [] => 0
  | d :: r => uptoBulk d + uptoBulkAll r
def uptoBulkEntries {H : Type} : List (Lit × DataW H) → Nat
  | [] => 0
  | x :: r => uptoBulkEntry x + uptoBulkEntries r
def uptoBulkEntry {H : Type} : Lit × DataW H → Nat
  | (.string bytes, d) => bytes.length + uptoBulk d + 1
  | (_, d) => uptoBulk d + 1
 end
def uptoSmall : (H : Type) → List (DataW H) → Bool := fun _ ds => decide (uptoBulkAll ds ≤ 1048576)
def OpenSpec.upto (s : _root_.Go.ChangeSpec) : _root_.Go.OpenSpec := { _root_.Go.OpenSpec.ofChange s with cond := some uptoSmall }

/-- 'estraylaw23.ScanNil', WHERE WHAT IT READS IS OF BULK AT MOST 1048576: true; the input reads as it did. -/
def scanNilUptoRow : OpenClaim := { program := "ytgpjanfphgjbbaa", sum := "638225f736a9b7420f3a97f080b81e1ff1eceff123b98893ad73d6c614c17d59", func := "estray/estraylaw23.ScanNil", spec := "scanNil", unfollowed := true, recurses := true, apart := false, narrowed := true }
def ScanNilUptoSaid : Prop := scanNilUptoRow.holds Try.pinned (OpenSpec.upto scanNilSpec)

/-- 'estraylaw23.ScanOrder', WHERE WHAT IT READS IS OF BULK AT MOST 1048576: true; the input reads as it did. -/
def scanOrderUptoRow : OpenClaim := { program := "ytgpjanfphgjbbaa", sum := "638225f736a9b7420f3a97f080b81e1ff1eceff123b98893ad73d6c614c17d59", func := "estray/estraylaw23.ScanOrder", spec := "scanOrder", unfollowed := true, recurses := true, apart := false, narrowed := true }
def ScanOrderUptoSaid : Prop := scanOrderUptoRow.holds Try.pinned (OpenSpec.upto scanOrderSpec)

/-- 'estraylaw23.ScanOne', WHERE WHAT IT READS IS OF BULK AT MOST 1048576: true; the input reads as it did. -/
def scanOneUptoRow : OpenClaim := { program := "ytgpjanfphgjbbaa", sum := "638225f736a9b7420f3a97f080b81e1ff1eceff123b98893ad73d6c614c17d59", func := "estray/estraylaw23.ScanOne", spec := "scanOne", unfollowed := true, recurses := true, apart := false, narrowed := true }
def ScanOneUptoSaid : Prop := scanOneUptoRow.holds Try.pinned (OpenSpec.upto scanOneSpec)

/-- 'estraylaw23.ScanStays', WHERE WHAT IT READS IS OF BULK AT MOST 1048576: true; the input reads as it did. -/
def scanStaysUptoRow : OpenClaim := { program := "ytgpjanfphgjbbaa", sum := "638225f736a9b7420f3a97f080b81e1ff1eceff123b98893ad73d6c614c17d59", func := "estray/estraylaw23.ScanStays", spec := "scanStays", unfollowed := true, recurses := true, apart := false, narrowed := true }
def ScanStaysUptoSaid : Prop := scanStaysUptoRow.holds Try.pinned (OpenSpec.upto scanStaysSpec)

end Rows
end Go.Proofs.Ytgpjanfphgjbbaa
