/-
  No cell of these rows narrows 'for every input' (looked for: loops, veiled, ifaces, maps, wideKeys, modest, calm, conditions, laid).
  DERIVED. THE GIVEN ROWS OF THIS SEAT. 7 by the template 'for every input the law returns true; each argument reads behind the call as it read before'; 0 by the template 'total and deterministic' (their statements: YtkpfpaadkemedaaTotals.lean).
  GIVEN WITH THE SEED: the statements are not yours to turn. If you find one false, say at which input.
  Laid BY PROGRAM, IN A SANDBOX (cutbox-rows.mjs): the forced cells as the released guide's own fill.sh prints them over the translation 006c1c7dcedd65c4… (all of the seat's roots in one cut). By AI agents, Wed Nov 11 2026. No macro, syntax, notation, axiom, sorry.
-/
import Derived.Test.YtkpfpaadkemedaaChecked
import GoSem.Claim
import GoSem.ClaimJoined
import GoSem.ClaimMapViews
import Derived.JoinedTies
import Derived.KernelRfl
namespace Go.Proofs.Ytkpfpaadkemedaa
/- THE CELL 'sum', in the pinned program and in every row, IS THE sha256 OF THE DUMP (.gsa) THAT YtkpfpaadkemedaaProg.lean LOADS. Nothing in Lean hashes anything: it is a label: what it is worth is what the hold of that sum in a sandbox is worth. -/
noncomputable def Try.pinned : Pinned := { name := "ytkpfpaadkemedaa", sum := "006c1c7dcedd65c4c7c16d7d13269ca5f53b13dcca79fc8bea4c9ed7fd879de1", checked := Try.checked }
namespace Rows
def none {H : Type} : Left H := { results := [], args := [] }

/-- 'estraylaw17.GlobalsLast': WHATEVER THE INPUT: true; the input reads as it did. -/
def globalsLastSpec : ChangeSpec := { name := "globalsLast", fn := fun _ => fun
  | [d] => { results := [.lit (.bool true)], args := [d] }
  | _ => none }
def globalsLastRow : OpenClaim := { program := "ytkpfpaadkemedaa", sum := "006c1c7dcedd65c4c7c16d7d13269ca5f53b13dcca79fc8bea4c9ed7fd879de1", func := "estray/estraylaw17.GlobalsLast", spec := "globalsLast", unfollowed := true, recurses := true, apart := false }
def GlobalsLastSaid : Prop := globalsLastRow.holds Try.pinned (OpenSpec.ofChange globalsLastSpec)

/-- ITS FALSE NEIGHBOUR: 'it returns false'. Refute it at one input. -/
def globalsLastWrong : ChangeSpec := { name := "globalsLast", fn := fun _ => fun
  | [d] => { results := [.lit (.bool false)], args := [d] }
  | _ => none }
def GlobalsLastWrongFalsely : Prop := globalsLastRow.holds Try.pinned (OpenSpec.ofChange globalsLastWrong)

/-- 'estraylaw17.GlobalsHas': WHATEVER THE INPUT: true; the input reads as it did. -/
def globalsHasSpec : ChangeSpec := { name := "globalsHas", fn := fun _ => fun
  | [d1, d2] => { results := [.lit (.bool true)], args := [d1, d2] }
  | _ => none }
def globalsHasRow : OpenClaim := { program := "ytkpfpaadkemedaa", sum := "006c1c7dcedd65c4c7c16d7d13269ca5f53b13dcca79fc8bea4c9ed7fd879de1", func := "estray/estraylaw17.GlobalsHas", spec := "globalsHas", unfollowed := true, recurses := true, apart := false }
def GlobalsHasSaid : Prop := globalsHasRow.holds Try.pinned (OpenSpec.ofChange globalsHasSpec)

/-- ITS FALSE NEIGHBOUR: 'it returns false'. Refute it at one input. -/
def globalsHasWrong : ChangeSpec := { name := "globalsHas", fn := fun _ => fun
  | [d1, d2] => { results := [.lit (.bool false)], args := [d1, d2] }
  | _ => none }
def GlobalsHasWrongFalsely : Prop := globalsHasRow.holds Try.pinned (OpenSpec.ofChange globalsHasWrong)

/-- 'estraylaw17.GlobalsRefuses': WHATEVER THE INPUT: true; the input reads as it did. -/
def globalsRefusesSpec : ChangeSpec := { name := "globalsRefuses", fn := fun _ => fun
  | [d1, d2] => { results := [.lit (.bool true)], args := [d1, d2] }
  | _ => none }
def globalsRefusesRow : OpenClaim := { program := "ytkpfpaadkemedaa", sum := "006c1c7dcedd65c4c7c16d7d13269ca5f53b13dcca79fc8bea4c9ed7fd879de1", func := "estray/estraylaw17.GlobalsRefuses", spec := "globalsRefuses", unfollowed := true, recurses := true, apart := false }
def GlobalsRefusesSaid : Prop := globalsRefusesRow.holds Try.pinned (OpenSpec.ofChange globalsRefusesSpec)

/-- ITS FALSE NEIGHBOUR: 'it returns false'. Refute it at one input. -/
def globalsRefusesWrong : ChangeSpec := { name := "globalsRefuses", fn := fun _ => fun
  | [d1, d2] => { results := [.lit (.bool false)], args := [d1, d2] }
  | _ => none }
def GlobalsRefusesWrongFalsely : Prop := globalsRefusesRow.holds Try.pinned (OpenSpec.ofChange globalsRefusesWrong)

/-- 'estraylaw17.GlobalsPlays': WHATEVER THE INPUT: true; the input reads as it did. -/
def globalsPlaysSpec : ChangeSpec := { name := "globalsPlays", fn := fun _ => fun
  | [d1, d2, d3] => { results := [.lit (.bool true)], args := [d1, d2, d3] }
  | _ => none }
def globalsPlaysRow : OpenClaim := { program := "ytkpfpaadkemedaa", sum := "006c1c7dcedd65c4c7c16d7d13269ca5f53b13dcca79fc8bea4c9ed7fd879de1", func := "estray/estraylaw17.GlobalsPlays", spec := "globalsPlays", unfollowed := true, recurses := true, apart := false }
def GlobalsPlaysSaid : Prop := globalsPlaysRow.holds Try.pinned (OpenSpec.ofChange globalsPlaysSpec)

/-- ITS FALSE NEIGHBOUR: 'it returns false'. Refute it at one input. -/
def globalsPlaysWrong : ChangeSpec := { name := "globalsPlays", fn := fun _ => fun
  | [d1, d2, d3] => { results := [.lit (.bool false)], args := [d1, d2, d3] }
  | _ => none }
def GlobalsPlaysWrongFalsely : Prop := globalsPlaysRow.holds Try.pinned (OpenSpec.ofChange globalsPlaysWrong)

/-- 'estraylaw17.GlobalsApart': WHATEVER THE INPUT: true; the input reads as it did. -/
def globalsApartSpec : ChangeSpec := { name := "globalsApart", fn := fun _ => fun
  | [d1, d2] => { results := [.lit (.bool true)], args := [d1, d2] }
  | _ => none }
def globalsApartRow : OpenClaim := { program := "ytkpfpaadkemedaa", sum := "006c1c7dcedd65c4c7c16d7d13269ca5f53b13dcca79fc8bea4c9ed7fd879de1", func := "estray/estraylaw17.GlobalsApart", spec := "globalsApart", unfollowed := true, recurses := true, apart := false }
def GlobalsApartSaid : Prop := globalsApartRow.holds Try.pinned (OpenSpec.ofChange globalsApartSpec)

/-- ITS FALSE NEIGHBOUR: 'it returns false'. Refute it at one input. -/
def globalsApartWrong : ChangeSpec := { name := "globalsApart", fn := fun _ => fun
  | [d1, d2] => { results := [.lit (.bool false)], args := [d1, d2] }
  | _ => none }
def GlobalsApartWrongFalsely : Prop := globalsApartRow.holds Try.pinned (OpenSpec.ofChange globalsApartWrong)

/-- 'estraylaw17.GlobalsNil': WHATEVER THE INPUT: true; the input reads as it did. -/
def globalsNilSpec : ChangeSpec := { name := "globalsNil", fn := fun _ => fun
  | [d1, d2] => { results := [.lit (.bool true)], args := [d1, d2] }
  | _ => none }
def globalsNilRow : OpenClaim := { program := "ytkpfpaadkemedaa", sum := "006c1c7dcedd65c4c7c16d7d13269ca5f53b13dcca79fc8bea4c9ed7fd879de1", func := "estray/estraylaw17.GlobalsNil", spec := "globalsNil", unfollowed := true, recurses := true, apart := false }
def GlobalsNilSaid : Prop := globalsNilRow.holds Try.pinned (OpenSpec.ofChange globalsNilSpec)

/-- ITS FALSE NEIGHBOUR: 'it returns false'. Refute it at one input. -/
def globalsNilWrong : ChangeSpec := { name := "globalsNil", fn := fun _ => fun
  | [d1, d2] => { results := [.lit (.bool false)], args := [d1, d2] }
  | _ => none }
def GlobalsNilWrongFalsely : Prop := globalsNilRow.holds Try.pinned (OpenSpec.ofChange globalsNilWrong)

/-- 'estraylaw17.GlobalsFull': WHATEVER THE INPUT: true; the input reads as it did. -/
def globalsFullSpec : ChangeSpec := { name := "globalsFull", fn := fun _ => fun
  | [d] => { results := [.lit (.bool true)], args := [d] }
  | _ => none }
def globalsFullRow : OpenClaim := { program := "ytkpfpaadkemedaa", sum := "006c1c7dcedd65c4c7c16d7d13269ca5f53b13dcca79fc8bea4c9ed7fd879de1", func := "estray/estraylaw17.GlobalsFull", spec := "globalsFull", unfollowed := true, recurses := true, apart := false }
def GlobalsFullSaid : Prop := globalsFullRow.holds Try.pinned (OpenSpec.ofChange globalsFullSpec)

/-- ITS FALSE NEIGHBOUR: 'it returns false'. Refute it at one input. -/
def globalsFullWrong : ChangeSpec := { name := "globalsFull", fn := fun _ => fun
  | [d] => { results := [.lit (.bool false)], args := [d] }
  | _ => none }
def GlobalsFullWrongFalsely : Prop := globalsFullRow.holds Try.pinned (OpenSpec.ofChange globalsFullWrong)

/- THE SECOND FORM. 'bulk': how many values and letters a reading holds, each counted each time it is reached (what is shared counts as often as it is met; a slice's spare places count too). A statement '..UptoSaid' is the law's where the arguments, and the package variables that the reading takes, are together of bulk at most 1048576: NARROWER than '..Said'. Prove '..Said' where nothing that the law and all that it calls make is longer than what came in: it says more and counts as full. Else prove '..UptoSaid'. A law counts once. -/
mutual
def uptoBulk {H : Type} : DataW H → Nat
  | .lit (.string bytes) => bytes.length + 1
  | .lit _ => 1
  | .nil => 1
  | .ptr d => uptoBulk d + 1
  | .slice elems spare => uptoBulkAll elems + uptoBulkAll spare + 1
  | .agg parts => uptoBulkAll parts + 1
  | .iface _ d => uptoBulk d + 1
  | .map entries => uptoBulkEntries entries + 1
  | .held _ => 1
def uptoBulkAll {H : Type} : List (DataW H) → Nat
  | [] => 0
  | d :: r => uptoBulk d + uptoBulkAll r
def uptoBulkEntries {H : Type} : List (Lit × DataW H) → Nat
  | [] => 0
  | x :: r => uptoBulkEntry x + uptoBulkEntries r
def uptoBulkEntry {H : Type} : Lit × DataW H → Nat
  | (.string bytes, d) => bytes.length + uptoBulk d + 1
  | (_, d) => uptoBulk d + 1
 end
def uptoSmall : (H : Type) → List (DataW H) → Bool := fun _ ds => decide (uptoBulkAll ds ≤ 1048576)
def OpenSpec.upto (s : _root_.Go.ChangeSpec) : _root_.Go.OpenSpec := { _root_.Go.OpenSpec.ofChange s with cond := some uptoSmall }

/-- 'estraylaw17.GlobalsLast', WHERE WHAT IT READS IS OF BULK AT MOST 1048576: true; the input reads as it did. -/
def globalsLastUptoRow : OpenClaim := { program := "ytkpfpaadkemedaa", sum := "006c1c7dcedd65c4c7c16d7d13269ca5f53b13dcca79fc8bea4c9ed7fd879de1", func := "estray/estraylaw17.GlobalsLast", spec := "globalsLast", unfollowed := true, recurses := true, apart := false, narrowed := true }
def GlobalsLastUptoSaid : Prop := globalsLastUptoRow.holds Try.pinned (OpenSpec.upto globalsLastSpec)

/-- 'estraylaw17.GlobalsHas', WHERE WHAT IT READS IS OF BULK AT MOST 1048576: true; the input reads as it did. -/
def globalsHasUptoRow : OpenClaim := { program := "ytkpfpaadkemedaa", sum := "006c1c7dcedd65c4c7c16d7d13269ca5f53b13dcca79fc8bea4c9ed7fd879de1", func := "estray/estraylaw17.GlobalsHas", spec := "globalsHas", unfollowed := true, recurses := true, apart := false, narrowed := true }
def GlobalsHasUptoSaid : Prop := globalsHasUptoRow.holds Try.pinned (OpenSpec.upto globalsHasSpec)

/-- 'estraylaw17.GlobalsRefuses', WHERE WHAT IT READS IS OF BULK AT MOST 1048576: true; the input reads as it did. -/
def globalsRefusesUptoRow : OpenClaim := { program := "ytkpfpaadkemedaa", sum := "006c1c7dcedd65c4c7c16d7d13269ca5f53b13dcca79fc8bea4c9ed7fd879de1", func := "estray/estraylaw17.GlobalsRefuses", spec := "globalsRefuses", unfollowed := true, recurses := true, apart := false, narrowed := true }
def GlobalsRefusesUptoSaid : Prop := globalsRefusesUptoRow.holds Try.pinned (OpenSpec.upto globalsRefusesSpec)

/-- 'estraylaw17.GlobalsPlays', WHERE WHAT IT READS IS OF BULK AT MOST 1048576: true; the input reads as it did. -/
def globalsPlaysUptoRow : OpenClaim := { program := "ytkpfpaadkemedaa", sum := "006c1c7dcedd65c4c7c16d7d13269ca5f53b13dcca79fc8bea4c9ed7fd879de1", func := "estray/estraylaw17.GlobalsPlays", spec := "globalsPlays", unfollowed := true, recurses := true, apart := false, narrowed := true }
def GlobalsPlaysUptoSaid : Prop := globalsPlaysUptoRow.holds Try.pinned (OpenSpec.upto globalsPlaysSpec)

/-- 'estraylaw17.GlobalsApart', WHERE WHAT IT READS IS OF BULK AT MOST 1048576: true; the input reads as it did. -/
def globalsApartUptoRow : OpenClaim := { program := "ytkpfpaadkemedaa", sum := "006c1c7dcedd65c4c7c16d7d13269ca5f53b13dcca79fc8bea4c9ed7fd879de1", func := "estray/estraylaw17.GlobalsApart", spec := "globalsApart", unfollowed := true, recurses := true, apart := false, narrowed := true }
def GlobalsApartUptoSaid : Prop := globalsApartUptoRow.holds Try.pinned (OpenSpec.upto globalsApartSpec)

/-- 'estraylaw17.GlobalsNil', WHERE WHAT IT READS IS OF BULK AT MOST 1048576: true; the input reads as it did. -/
def globalsNilUptoRow : OpenClaim := { program := "ytkpfpaadkemedaa", sum := "006c1c7dcedd65c4c7c16d7d13269ca5f53b13dcca79fc8bea4c9ed7fd879de1", func := "estray/estraylaw17.GlobalsNil", spec := "globalsNil", unfollowed := true, recurses := true, apart := false, narrowed := true }
def GlobalsNilUptoSaid : Prop := globalsNilUptoRow.holds Try.pinned (OpenSpec.upto globalsNilSpec)

/-- 'estraylaw17.GlobalsFull', WHERE WHAT IT READS IS OF BULK AT MOST 1048576: true; the input reads as it did. -/
def globalsFullUptoRow : OpenClaim := { program := "ytkpfpaadkemedaa", sum := "006c1c7dcedd65c4c7c16d7d13269ca5f53b13dcca79fc8bea4c9ed7fd879de1", func := "estray/estraylaw17.GlobalsFull", spec := "globalsFull", unfollowed := true, recurses := true, apart := false, narrowed := true }
def GlobalsFullUptoSaid : Prop := globalsFullUptoRow.holds Try.pinned (OpenSpec.upto globalsFullSpec)

end Rows
end Go.Proofs.Ytkpfpaadkemedaa
