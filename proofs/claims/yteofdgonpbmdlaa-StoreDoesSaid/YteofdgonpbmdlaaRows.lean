/-
  No cell of these rows narrows 'for every input' (looked for: loops, veiled, ifaces, maps, wideKeys, modest, calm, conditions, laid).
  DERIVED. THE GIVEN ROWS OF THIS SEAT. 14 by the template 'for every input the law returns true; each argument reads behind the call as it read before'; 0 by the template 'total and deterministic' (their statements: YteofdgonpbmdlaaTotals.lean).
  GIVEN WITH THE SEED: the statements are not yours to turn. If you find one false, say at which input.
  Laid BY PROGRAM, IN A SANDBOX (cutbox-rows.mjs): the forced cells as the released guide's own fill.sh prints them over the translation f6df1eedc640114a… (all of the seat's roots in one cut). By AI agents, Wed Nov 11 2026. No macro, syntax, notation, axiom, sorry.
-/
import Derived.Test.YteofdgonpbmdlaaChecked
import GoSem.Claim
import GoSem.ClaimJoined
import GoSem.ClaimMapViews
import Derived.JoinedTies
import Derived.KernelRfl
namespace Go.Proofs.Yteofdgonpbmdlaa
/- THE CELL 'sum', in the pinned program and in every row, IS THE sha256 OF THE DUMP (.gsa) THAT YteofdgonpbmdlaaProg.lean LOADS. Nothing in Lean hashes anything: it is a label: what it is worth is what the hold of that sum in a sandbox is worth. -/
noncomputable def Try.pinned : Pinned := { name := "yteofdgonpbmdlaa", sum := "f6df1eedc640114a6e9e30b6459d4ba967c92a8ef7468d57cced260921deb57a", checked := Try.checked }
namespace Rows
def none {H : Type} : Left H := { results := [], args := [] }

/-- 'conductorlaw07.ChainFinds': WHATEVER THE INPUT: true; the input reads as it did. -/
def chainFindsSpec : ChangeSpec := { name := "chainFinds", fn := fun _ => fun
  | [d1, d2] => { results := [.lit (.bool true)], args := [d1, d2] }
  | _ => none }
def chainFindsRow : OpenClaim := { program := "yteofdgonpbmdlaa", sum := "f6df1eedc640114a6e9e30b6459d4ba967c92a8ef7468d57cced260921deb57a", func := "conductor/conductorlaw07.ChainFinds", spec := "chainFinds", unfollowed := true, recurses := true, apart := false }
def ChainFindsSaid : Prop := chainFindsRow.holds Try.pinned (OpenSpec.ofChange chainFindsSpec)

/-- ITS FALSE NEIGHBOUR: 'it returns false'. Refute it at one input. -/
def chainFindsWrong : ChangeSpec := { name := "chainFinds", fn := fun _ => fun
  | [d1, d2] => { results := [.lit (.bool false)], args := [d1, d2] }
  | _ => none }
def ChainFindsWrongFalsely : Prop := chainFindsRow.holds Try.pinned (OpenSpec.ofChange chainFindsWrong)

/-- 'conductorlaw07.ChainPuts': WHATEVER THE INPUT: true; the input reads as it did. -/
def chainPutsSpec : ChangeSpec := { name := "chainPuts", fn := fun _ => fun
  | [d1, d2] => { results := [.lit (.bool true)], args := [d1, d2] }
  | _ => none }
def chainPutsRow : OpenClaim := { program := "yteofdgonpbmdlaa", sum := "f6df1eedc640114a6e9e30b6459d4ba967c92a8ef7468d57cced260921deb57a", func := "conductor/conductorlaw07.ChainPuts", spec := "chainPuts", unfollowed := true, recurses := true, apart := false }
def ChainPutsSaid : Prop := chainPutsRow.holds Try.pinned (OpenSpec.ofChange chainPutsSpec)

/-- ITS FALSE NEIGHBOUR: 'it returns false'. Refute it at one input. -/
def chainPutsWrong : ChangeSpec := { name := "chainPuts", fn := fun _ => fun
  | [d1, d2] => { results := [.lit (.bool false)], args := [d1, d2] }
  | _ => none }
def ChainPutsWrongFalsely : Prop := chainPutsRow.holds Try.pinned (OpenSpec.ofChange chainPutsWrong)

/-- 'conductorlaw07.ChainTrims': WHATEVER THE INPUT: true; the input reads as it did. -/
def chainTrimsSpec : ChangeSpec := { name := "chainTrims", fn := fun _ => fun
  | [d1, d2] => { results := [.lit (.bool true)], args := [d1, d2] }
  | _ => none }
def chainTrimsRow : OpenClaim := { program := "yteofdgonpbmdlaa", sum := "f6df1eedc640114a6e9e30b6459d4ba967c92a8ef7468d57cced260921deb57a", func := "conductor/conductorlaw07.ChainTrims", spec := "chainTrims", unfollowed := true, recurses := true, apart := false }
def ChainTrimsSaid : Prop := chainTrimsRow.holds Try.pinned (OpenSpec.ofChange chainTrimsSpec)

/-- ITS FALSE NEIGHBOUR: 'it returns false'. Refute it at one input. -/
def chainTrimsWrong : ChangeSpec := { name := "chainTrims", fn := fun _ => fun
  | [d1, d2] => { results := [.lit (.bool false)], args := [d1, d2] }
  | _ => none }
def ChainTrimsWrongFalsely : Prop := chainTrimsRow.holds Try.pinned (OpenSpec.ofChange chainTrimsWrong)

/-- 'conductorlaw07.ChainReads': WHATEVER THE INPUT: true; the input reads as it did. -/
def chainReadsSpec : ChangeSpec := { name := "chainReads", fn := fun _ => fun
  | [d1, d2, d3] => { results := [.lit (.bool true)], args := [d1, d2, d3] }
  | _ => none }
def chainReadsRow : OpenClaim := { program := "yteofdgonpbmdlaa", sum := "f6df1eedc640114a6e9e30b6459d4ba967c92a8ef7468d57cced260921deb57a", func := "conductor/conductorlaw07.ChainReads", spec := "chainReads", unfollowed := true, recurses := true, apart := false }
def ChainReadsSaid : Prop := chainReadsRow.holds Try.pinned (OpenSpec.ofChange chainReadsSpec)

/-- ITS FALSE NEIGHBOUR: 'it returns false'. Refute it at one input. -/
def chainReadsWrong : ChangeSpec := { name := "chainReads", fn := fun _ => fun
  | [d1, d2, d3] => { results := [.lit (.bool false)], args := [d1, d2, d3] }
  | _ => none }
def ChainReadsWrongFalsely : Prop := chainReadsRow.holds Try.pinned (OpenSpec.ofChange chainReadsWrong)

/-- 'conductorlaw07.ChainStays': WHATEVER THE INPUT: true; the input reads as it did. -/
def chainStaysSpec : ChangeSpec := { name := "chainStays", fn := fun _ => fun
  | [d1, d2, d3] => { results := [.lit (.bool true)], args := [d1, d2, d3] }
  | _ => none }
def chainStaysRow : OpenClaim := { program := "yteofdgonpbmdlaa", sum := "f6df1eedc640114a6e9e30b6459d4ba967c92a8ef7468d57cced260921deb57a", func := "conductor/conductorlaw07.ChainStays", spec := "chainStays", unfollowed := true, recurses := true, apart := false }
def ChainStaysSaid : Prop := chainStaysRow.holds Try.pinned (OpenSpec.ofChange chainStaysSpec)

/-- ITS FALSE NEIGHBOUR: 'it returns false'. Refute it at one input. -/
def chainStaysWrong : ChangeSpec := { name := "chainStays", fn := fun _ => fun
  | [d1, d2, d3] => { results := [.lit (.bool false)], args := [d1, d2, d3] }
  | _ => none }
def ChainStaysWrongFalsely : Prop := chainStaysRow.holds Try.pinned (OpenSpec.ofChange chainStaysWrong)

/-- 'conductorlaw07.ChainFew': WHATEVER THE INPUT: true; the input reads as it did. -/
def chainFewSpec : ChangeSpec := { name := "chainFew", fn := fun _ => fun
  | [d1, d2, d3] => { results := [.lit (.bool true)], args := [d1, d2, d3] }
  | _ => none }
def chainFewRow : OpenClaim := { program := "yteofdgonpbmdlaa", sum := "f6df1eedc640114a6e9e30b6459d4ba967c92a8ef7468d57cced260921deb57a", func := "conductor/conductorlaw07.ChainFew", spec := "chainFew", unfollowed := true, recurses := true, apart := false }
def ChainFewSaid : Prop := chainFewRow.holds Try.pinned (OpenSpec.ofChange chainFewSpec)

/-- ITS FALSE NEIGHBOUR: 'it returns false'. Refute it at one input. -/
def chainFewWrong : ChangeSpec := { name := "chainFew", fn := fun _ => fun
  | [d1, d2, d3] => { results := [.lit (.bool false)], args := [d1, d2, d3] }
  | _ => none }
def ChainFewWrongFalsely : Prop := chainFewRow.holds Try.pinned (OpenSpec.ofChange chainFewWrong)

/-- 'conductorlaw07.ChainRights': WHATEVER THE INPUT: true; the input reads as it did. -/
def chainRightsSpec : ChangeSpec := { name := "chainRights", fn := fun _ => fun
  | [d1, d2] => { results := [.lit (.bool true)], args := [d1, d2] }
  | _ => none }
def chainRightsRow : OpenClaim := { program := "yteofdgonpbmdlaa", sum := "f6df1eedc640114a6e9e30b6459d4ba967c92a8ef7468d57cced260921deb57a", func := "conductor/conductorlaw07.ChainRights", spec := "chainRights", unfollowed := true, recurses := true, apart := false }
def ChainRightsSaid : Prop := chainRightsRow.holds Try.pinned (OpenSpec.ofChange chainRightsSpec)

/-- ITS FALSE NEIGHBOUR: 'it returns false'. Refute it at one input. -/
def chainRightsWrong : ChangeSpec := { name := "chainRights", fn := fun _ => fun
  | [d1, d2] => { results := [.lit (.bool false)], args := [d1, d2] }
  | _ => none }
def ChainRightsWrongFalsely : Prop := chainRightsRow.holds Try.pinned (OpenSpec.ofChange chainRightsWrong)

/-- 'conductorlaw08.StoreScans': WHATEVER THE INPUT: true; the input reads as it did. -/
def storeScansSpec : ChangeSpec := { name := "storeScans", fn := fun _ => fun
  | [d1, d2, d3, d4, d5] => { results := [.lit (.bool true)], args := [d1, d2, d3, d4, d5] }
  | _ => none }
def storeScansRow : OpenClaim := { program := "yteofdgonpbmdlaa", sum := "f6df1eedc640114a6e9e30b6459d4ba967c92a8ef7468d57cced260921deb57a", func := "conductor/conductorlaw08.StoreScans", spec := "storeScans", inPlace := ["slices.overlaps[string]"], unfollowed := true, recurses := true, apart := false }
def StoreScansSaid : Prop := storeScansRow.holds Try.pinned (OpenSpec.ofChange storeScansSpec)

/-- ITS FALSE NEIGHBOUR: 'it returns false'. Refute it at one input. -/
def storeScansWrong : ChangeSpec := { name := "storeScans", fn := fun _ => fun
  | [d1, d2, d3, d4, d5] => { results := [.lit (.bool false)], args := [d1, d2, d3, d4, d5] }
  | _ => none }
def StoreScansWrongFalsely : Prop := storeScansRow.holds Try.pinned (OpenSpec.ofChange storeScansWrong)

/-- 'conductorlaw08.StoreStays': WHATEVER THE INPUT: true; the input reads as it did. -/
def storeStaysSpec : ChangeSpec := { name := "storeStays", fn := fun _ => fun
  | [d1, d2, d3] => { results := [.lit (.bool true)], args := [d1, d2, d3] }
  | _ => none }
def storeStaysRow : OpenClaim := { program := "yteofdgonpbmdlaa", sum := "f6df1eedc640114a6e9e30b6459d4ba967c92a8ef7468d57cced260921deb57a", func := "conductor/conductorlaw08.StoreStays", spec := "storeStays", inPlace := ["slices.overlaps[string]"], unfollowed := true, recurses := true, apart := false }
def StoreStaysSaid : Prop := storeStaysRow.holds Try.pinned (OpenSpec.ofChange storeStaysSpec)

/-- ITS FALSE NEIGHBOUR: 'it returns false'. Refute it at one input. -/
def storeStaysWrong : ChangeSpec := { name := "storeStays", fn := fun _ => fun
  | [d1, d2, d3] => { results := [.lit (.bool false)], args := [d1, d2, d3] }
  | _ => none }
def StoreStaysWrongFalsely : Prop := storeStaysRow.holds Try.pinned (OpenSpec.ofChange storeStaysWrong)

/-- 'conductorlaw08.StoreUnseen': WHATEVER THE INPUT: true; the input reads as it did. -/
def storeUnseenSpec : ChangeSpec := { name := "storeUnseen", fn := fun _ => fun
  | [d1, d2] => { results := [.lit (.bool true)], args := [d1, d2] }
  | _ => none }
def storeUnseenRow : OpenClaim := { program := "yteofdgonpbmdlaa", sum := "f6df1eedc640114a6e9e30b6459d4ba967c92a8ef7468d57cced260921deb57a", func := "conductor/conductorlaw08.StoreUnseen", spec := "storeUnseen", inPlace := ["slices.overlaps[string]"], unfollowed := true, recurses := true, apart := false }
def StoreUnseenSaid : Prop := storeUnseenRow.holds Try.pinned (OpenSpec.ofChange storeUnseenSpec)

/-- ITS FALSE NEIGHBOUR: 'it returns false'. Refute it at one input. -/
def storeUnseenWrong : ChangeSpec := { name := "storeUnseen", fn := fun _ => fun
  | [d1, d2] => { results := [.lit (.bool false)], args := [d1, d2] }
  | _ => none }
def StoreUnseenWrongFalsely : Prop := storeUnseenRow.holds Try.pinned (OpenSpec.ofChange storeUnseenWrong)

/-- 'conductorlaw08.StoreLimits': WHATEVER THE INPUT: true; the input reads as it did. -/
def storeLimitsSpec : ChangeSpec := { name := "storeLimits", fn := fun _ => fun
  | [d1, d2] => { results := [.lit (.bool true)], args := [d1, d2] }
  | _ => none }
def storeLimitsRow : OpenClaim := { program := "yteofdgonpbmdlaa", sum := "f6df1eedc640114a6e9e30b6459d4ba967c92a8ef7468d57cced260921deb57a", func := "conductor/conductorlaw08.StoreLimits", spec := "storeLimits", inPlace := ["slices.overlaps[string]"], unfollowed := true, recurses := true, apart := false }
def StoreLimitsSaid : Prop := storeLimitsRow.holds Try.pinned (OpenSpec.ofChange storeLimitsSpec)

/-- ITS FALSE NEIGHBOUR: 'it returns false'. Refute it at one input. -/
def storeLimitsWrong : ChangeSpec := { name := "storeLimits", fn := fun _ => fun
  | [d1, d2] => { results := [.lit (.bool false)], args := [d1, d2] }
  | _ => none }
def StoreLimitsWrongFalsely : Prop := storeLimitsRow.holds Try.pinned (OpenSpec.ofChange storeLimitsWrong)

/-- 'conductorlaw08.StoreFew': WHATEVER THE INPUT: true; the input reads as it did. -/
def storeFewSpec : ChangeSpec := { name := "storeFew", fn := fun _ => fun
  | [d1, d2] => { results := [.lit (.bool true)], args := [d1, d2] }
  | _ => none }
def storeFewRow : OpenClaim := { program := "yteofdgonpbmdlaa", sum := "f6df1eedc640114a6e9e30b6459d4ba967c92a8ef7468d57cced260921deb57a", func := "conductor/conductorlaw08.StoreFew", spec := "storeFew", inPlace := ["slices.overlaps[string]"], unfollowed := true, recurses := true, apart := false }
def StoreFewSaid : Prop := storeFewRow.holds Try.pinned (OpenSpec.ofChange storeFewSpec)

/-- ITS FALSE NEIGHBOUR: 'it returns false'. Refute it at one input. -/
def storeFewWrong : ChangeSpec := { name := "storeFew", fn := fun _ => fun
  | [d1, d2] => { results := [.lit (.bool false)], args := [d1, d2] }
  | _ => none }
def StoreFewWrongFalsely : Prop := storeFewRow.holds Try.pinned (OpenSpec.ofChange storeFewWrong)

/-- 'conductorlaw08.StoreDoes': WHATEVER THE INPUT: true; the input reads as it did. -/
def storeDoesSpec : ChangeSpec := { name := "storeDoes", fn := fun _ => fun
  | [d1, d2] => { results := [.lit (.bool true)], args := [d1, d2] }
  | _ => none }
def storeDoesRow : OpenClaim := { program := "yteofdgonpbmdlaa", sum := "f6df1eedc640114a6e9e30b6459d4ba967c92a8ef7468d57cced260921deb57a", func := "conductor/conductorlaw08.StoreDoes", spec := "storeDoes", inPlace := ["slices.overlaps[string]"], unfollowed := true, recurses := true, apart := false }
def StoreDoesSaid : Prop := storeDoesRow.holds Try.pinned (OpenSpec.ofChange storeDoesSpec)

/-- ITS FALSE NEIGHBOUR: 'it returns false'. Refute it at one input. -/
def storeDoesWrong : ChangeSpec := { name := "storeDoes", fn := fun _ => fun
  | [d1, d2] => { results := [.lit (.bool false)], args := [d1, d2] }
  | _ => none }
def StoreDoesWrongFalsely : Prop := storeDoesRow.holds Try.pinned (OpenSpec.ofChange storeDoesWrong)

/-- 'conductorlaw08.StoreNone': WHATEVER THE INPUT: true; the input reads as it did. -/
def storeNoneSpec : ChangeSpec := { name := "storeNone", fn := fun _ => fun
  | [d1, d2] => { results := [.lit (.bool true)], args := [d1, d2] }
  | _ => none }
def storeNoneRow : OpenClaim := { program := "yteofdgonpbmdlaa", sum := "f6df1eedc640114a6e9e30b6459d4ba967c92a8ef7468d57cced260921deb57a", func := "conductor/conductorlaw08.StoreNone", spec := "storeNone", inPlace := ["slices.overlaps[string]"], unfollowed := true, recurses := true, apart := false }
def StoreNoneSaid : Prop := storeNoneRow.holds Try.pinned (OpenSpec.ofChange storeNoneSpec)

/-- ITS FALSE NEIGHBOUR: 'it returns false'. Refute it at one input. -/
def storeNoneWrong : ChangeSpec := { name := "storeNone", fn := fun _ => fun
  | [d1, d2] => { results := [.lit (.bool false)], args := [d1, d2] }
  | _ => none }
def StoreNoneWrongFalsely : Prop := storeNoneRow.holds Try.pinned (OpenSpec.ofChange storeNoneWrong)

/- THE SECOND FORM. 'bulk': how many values and letters a reading holds, each counted each time it is reached (what is shared counts as often as it is met; a slice's spare places count too). A statement '..UptoSaid' is the law's where the arguments, and the package variables that the reading takes, are together of bulk at most 1048576: NARROWER than '..Said'. Prove '..Said' where nothing that the law and all that it calls make is longer than what came in: it says more and counts as full. Else prove '..UptoSaid'. A law counts once. -/
mutual
def uptoBulk {H : Type} : DataW H → Nat
  | .lit (.string bytes) => bytes.length + 1
  | .lit _ => 1
  | .nil => 1
  | .ptr d => uptoBulk d + 1
  | .slice elems spare => uptoBulkAll elems + uptoBulkAll spare + 1
  | .agg parts => uptoBulkAll parts + 1
  | .iface _ d => uptoBulk d + 1
  | .map entries => uptoBulkEntries entries + 1
  | .held _ => 1
def uptoBulkAll {H : Type} : List (DataW H) → Nat
  | [] => 0
  | d :: r => uptoBulk d + uptoBulkAll r
def uptoBulkEntries {H : Type} : List (Lit × DataW H) → Nat
  | [] => 0
  | x :: r => uptoBulkEntry x + uptoBulkEntries r
def uptoBulkEntry {H : Type} : Lit × DataW H → Nat
  | (.string bytes, d) => bytes.length + uptoBulk d + 1
  | (_, d) => uptoBulk d + 1
 end
def uptoSmall : (H : Type) → List (DataW H) → Bool := fun _ ds => decide (uptoBulkAll ds ≤ 1048576)
def OpenSpec.upto (s : _root_.Go.ChangeSpec) : _root_.Go.OpenSpec := { _root_.Go.OpenSpec.ofChange s with cond := some uptoSmall }

/-- 'conductorlaw07.ChainFinds', WHERE WHAT IT READS IS OF BULK AT MOST 1048576: true; the input reads as it did. -/
def chainFindsUptoRow : OpenClaim := { program := "yteofdgonpbmdlaa", sum := "f6df1eedc640114a6e9e30b6459d4ba967c92a8ef7468d57cced260921deb57a", func := "conductor/conductorlaw07.ChainFinds", spec := "chainFinds", unfollowed := true, recurses := true, apart := false, narrowed := true }
def ChainFindsUptoSaid : Prop := chainFindsUptoRow.holds Try.pinned (OpenSpec.upto chainFindsSpec)

/-- 'conductorlaw07.ChainPuts', WHERE WHAT IT READS IS OF BULK AT MOST 1048576: true; the input reads as it did. -/
def chainPutsUptoRow : OpenClaim := { program := "yteofdgonpbmdlaa", sum := "f6df1eedc640114a6e9e30b6459d4ba967c92a8ef7468d57cced260921deb57a", func := "conductor/conductorlaw07.ChainPuts", spec := "chainPuts", unfollowed := true, recurses := true, apart := false, narrowed := true }
def ChainPutsUptoSaid : Prop := chainPutsUptoRow.holds Try.pinned (OpenSpec.upto chainPutsSpec)

/-- 'conductorlaw07.ChainTrims', WHERE WHAT IT READS IS OF BULK AT MOST 1048576: true; the input reads as it did. -/
def chainTrimsUptoRow : OpenClaim := { program := "yteofdgonpbmdlaa", sum := "f6df1eedc640114a6e9e30b6459d4ba967c92a8ef7468d57cced260921deb57a", func := "conductor/conductorlaw07.ChainTrims", spec := "chainTrims", unfollowed := true, recurses := true, apart := false, narrowed := true }
def ChainTrimsUptoSaid : Prop := chainTrimsUptoRow.holds Try.pinned (OpenSpec.upto chainTrimsSpec)

/-- 'conductorlaw07.ChainReads', WHERE WHAT IT READS IS OF BULK AT MOST 1048576: true; the input reads as it did. -/
def chainReadsUptoRow : OpenClaim := { program := "yteofdgonpbmdlaa", sum := "f6df1eedc640114a6e9e30b6459d4ba967c92a8ef7468d57cced260921deb57a", func := "conductor/conductorlaw07.ChainReads", spec := "chainReads", unfollowed := true, recurses := true, apart := false, narrowed := true }
def ChainReadsUptoSaid : Prop := chainReadsUptoRow.holds Try.pinned (OpenSpec.upto chainReadsSpec)

/-- 'conductorlaw07.ChainStays', WHERE WHAT IT READS IS OF BULK AT MOST 1048576: true; the input reads as it did. -/
def chainStaysUptoRow : OpenClaim := { program := "yteofdgonpbmdlaa", sum := "f6df1eedc640114a6e9e30b6459d4ba967c92a8ef7468d57cced260921deb57a", func := "conductor/conductorlaw07.ChainStays", spec := "chainStays", unfollowed := true, recurses := true, apart := false, narrowed := true }
def ChainStaysUptoSaid : Prop := chainStaysUptoRow.holds Try.pinned (OpenSpec.upto chainStaysSpec)

/-- 'conductorlaw07.ChainFew', WHERE WHAT IT READS IS OF BULK AT MOST 1048576: true; the input reads as it did. -/
def chainFewUptoRow : OpenClaim := { program := "yteofdgonpbmdlaa", sum := "f6df1eedc640114a6e9e30b6459d4ba967c92a8ef7468d57cced260921deb57a", func := "conductor/conductorlaw07.ChainFew", spec := "chainFew", unfollowed := true, recurses := true, apart := false, narrowed := true }
def ChainFewUptoSaid : Prop := chainFewUptoRow.holds Try.pinned (OpenSpec.upto chainFewSpec)

/-- 'conductorlaw07.ChainRights', WHERE WHAT IT READS IS OF BULK AT MOST 1048576: true; the input reads as it did. -/
def chainRightsUptoRow : OpenClaim := { program := "yteofdgonpbmdlaa", sum := "f6df1eedc640114a6e9e30b6459d4ba967c92a8ef7468d57cced260921deb57a", func := "conductor/conductorlaw07.ChainRights", spec := "chainRights", unfollowed := true, recurses := true, apart := false, narrowed := true }
def ChainRightsUptoSaid : Prop := chainRightsUptoRow.holds Try.pinned (OpenSpec.upto chainRightsSpec)

/-- 'conductorlaw08.StoreScans', WHERE WHAT IT READS IS OF BULK AT MOST 1048576: true; the input reads as it did. -/
def storeScansUptoRow : OpenClaim := { program := "yteofdgonpbmdlaa", sum := "f6df1eedc640114a6e9e30b6459d4ba967c92a8ef7468d57cced260921deb57a", func := "conductor/conductorlaw08.StoreScans", spec := "storeScans", inPlace := ["slices.overlaps[string]"], unfollowed := true, recurses := true, apart := false, narrowed := true }
def StoreScansUptoSaid : Prop := storeScansUptoRow.holds Try.pinned (OpenSpec.upto storeScansSpec)

/-- 'conductorlaw08.StoreStays', WHERE WHAT IT READS IS OF BULK AT MOST 1048576: true; the input reads as it did. -/
def storeStaysUptoRow : OpenClaim := { program := "yteofdgonpbmdlaa", sum := "f6df1eedc640114a6e9e30b6459d4ba967c92a8ef7468d57cced260921deb57a", func := "conductor/conductorlaw08.StoreStays", spec := "storeStays", inPlace := ["slices.overlaps[string]"], unfollowed := true, recurses := true, apart := false, narrowed := true }
def StoreStaysUptoSaid : Prop := storeStaysUptoRow.holds Try.pinned (OpenSpec.upto storeStaysSpec)

/-- 'conductorlaw08.StoreUnseen', WHERE WHAT IT READS IS OF BULK AT MOST 1048576: true; the input reads as it did. -/
def storeUnseenUptoRow : OpenClaim := { program := "yteofdgonpbmdlaa", sum := "f6df1eedc640114a6e9e30b6459d4ba967c92a8ef7468d57cced260921deb57a", func := "conductor/conductorlaw08.StoreUnseen", spec := "storeUnseen", inPlace := ["slices.overlaps[string]"], unfollowed := true, recurses := true, apart := false, narrowed := true }
def StoreUnseenUptoSaid : Prop := storeUnseenUptoRow.holds Try.pinned (OpenSpec.upto storeUnseenSpec)

/-- 'conductorlaw08.StoreLimits', WHERE WHAT IT READS IS OF BULK AT MOST 1048576: true; the input reads as it did. -/
def storeLimitsUptoRow : OpenClaim := { program := "yteofdgonpbmdlaa", sum := "f6df1eedc640114a6e9e30b6459d4ba967c92a8ef7468d57cced260921deb57a", func := "conductor/conductorlaw08.StoreLimits", spec := "storeLimits", inPlace := ["slices.overlaps[string]"], unfollowed := true, recurses := true, apart := false, narrowed := true }
def StoreLimitsUptoSaid : Prop := storeLimitsUptoRow.holds Try.pinned (OpenSpec.upto storeLimitsSpec)

/-- 'conductorlaw08.StoreFew', WHERE WHAT IT READS IS OF BULK AT MOST 1048576: true; the input reads as it did. -/
def storeFewUptoRow : OpenClaim := { program := "yteofdgonpbmdlaa", sum := "f6df1eedc640114a6e9e30b6459d4ba967c92a8ef7468d57cced260921deb57a", func := "conductor/conductorlaw08.StoreFew", spec := "storeFew", inPlace := ["slices.overlaps[string]"], unfollowed := true, recurses := true, apart := false, narrowed := true }
def StoreFewUptoSaid : Prop := storeFewUptoRow.holds Try.pinned (OpenSpec.upto storeFewSpec)

/-- 'conductorlaw08.StoreDoes', WHERE WHAT IT READS IS OF BULK AT MOST 1048576: true; the input reads as it did. -/
def storeDoesUptoRow : OpenClaim := { program := "yteofdgonpbmdlaa", sum := "f6df1eedc640114a6e9e30b6459d4ba967c92a8ef7468d57cced260921deb57a", func := "conductor/conductorlaw08.StoreDoes", spec := "storeDoes", inPlace := ["slices.overlaps[string]"], unfollowed := true, recurses := true, apart := false, narrowed := true }
def StoreDoesUptoSaid : Prop := storeDoesUptoRow.holds Try.pinned (OpenSpec.upto storeDoesSpec)

/-- 'conductorlaw08.StoreNone', WHERE WHAT IT READS IS OF BULK AT MOST 1048576: true; the input reads as it did. -/
def storeNoneUptoRow : OpenClaim := { program := "yteofdgonpbmdlaa", sum := "f6df1eedc640114a6e9e30b6459d4ba967c92a8ef7468d57cced260921deb57a", func := "conductor/conductorlaw08.StoreNone", spec := "storeNone", inPlace := ["slices.overlaps[string]"], unfollowed := true, recurses := true, apart := false, narrowed := true }
def StoreNoneUptoSaid : Prop := storeNoneUptoRow.holds Try.pinned (OpenSpec.upto storeNoneSpec)

end Rows
end Go.Proofs.Yteofdgonpbmdlaa
