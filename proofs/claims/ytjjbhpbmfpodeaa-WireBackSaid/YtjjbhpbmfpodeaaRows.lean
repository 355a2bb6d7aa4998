/-
  No cell of these rows narrows 'for every input' (looked for: loops, veiled, ifaces, maps, wideKeys, modest, calm, conditions, laid).
  DERIVED. THE GIVEN ROWS OF THIS SEAT. 25 by the template 'for every input the law returns true; each argument reads behind the call as it read before'; 0 by the template 'total and deterministic' (their statements: YtjjbhpbmfpodeaaTotals.lean).
  GIVEN WITH THE SEED: the statements are not yours to turn. If you find one false, say at which input.
  Laid BY PROGRAM, IN A SANDBOX (cutbox-rows.mjs): the forced cells as the released guide's own fill.sh prints them over the translation c919bf73925b1bd6… (all of the seat's roots in one cut). By AI agents, Wed Nov 11 2026. No macro, syntax, notation, axiom, sorry.
-/
import Derived.Test.YtjjbhpbmfpodeaaChecked
import GoSem.Claim
import GoSem.ClaimJoined
import GoSem.ClaimMapViews
import Derived.JoinedTies
import Derived.KernelRfl
namespace Go.Proofs.Ytjjbhpbmfpodeaa
/- THE CELL 'sum', in the pinned program and in every row, IS THE sha256 OF THE DUMP (.gsa) THAT YtjjbhpbmfpodeaaProg.lean LOADS. Nothing in Lean hashes anything: it is a label: what it is worth is what the hold of that sum in a sandbox is worth. -/
noncomputable def Try.pinned : Pinned := { name := "ytjjbhpbmfpodeaa", sum := "c919bf73925b1bd6c93a716fdb0176c902f603e59538a19286850a46672779c0", checked := Try.checked }
namespace Rows
def none {H : Type} : Left H := { results := [], args := [] }

/-- 'ostiarylaw03.OctetPuts': WHATEVER THE INPUT: true; the input reads as it did. -/
def octetPutsSpec : ChangeSpec := { name := "octetPuts", fn := fun _ => fun
  | [d] => { results := [.lit (.bool true)], args := [d] }
  | _ => none }
def octetPutsRow : OpenClaim := { program := "ytjjbhpbmfpodeaa", sum := "c919bf73925b1bd6c93a716fdb0176c902f603e59538a19286850a46672779c0", func := "ostiary/ostiarylaw03.OctetPuts", spec := "octetPuts", unfollowed := true, recurses := true, apart := false }
def OctetPutsSaid : Prop := octetPutsRow.holds Try.pinned (OpenSpec.ofChange octetPutsSpec)

/-- ITS FALSE NEIGHBOUR: 'it returns false'. Refute it at one input. -/
def octetPutsWrong : ChangeSpec := { name := "octetPuts", fn := fun _ => fun
  | [d] => { results := [.lit (.bool false)], args := [d] }
  | _ => none }
def OctetPutsWrongFalsely : Prop := octetPutsRow.holds Try.pinned (OpenSpec.ofChange octetPutsWrong)

/-- 'ostiarylaw03.OctetBack': WHATEVER THE INPUT: true; the input reads as it did. -/
def octetBackSpec : ChangeSpec := { name := "octetBack", fn := fun _ => fun
  | [d1, d2, d3] => { results := [.lit (.bool true)], args := [d1, d2, d3] }
  | _ => none }
def octetBackRow : OpenClaim := { program := "ytjjbhpbmfpodeaa", sum := "c919bf73925b1bd6c93a716fdb0176c902f603e59538a19286850a46672779c0", func := "ostiary/ostiarylaw03.OctetBack", spec := "octetBack", unfollowed := true, recurses := true, apart := false }
def OctetBackSaid : Prop := octetBackRow.holds Try.pinned (OpenSpec.ofChange octetBackSpec)

/-- ITS FALSE NEIGHBOUR: 'it returns false'. Refute it at one input. -/
def octetBackWrong : ChangeSpec := { name := "octetBack", fn := fun _ => fun
  | [d1, d2, d3] => { results := [.lit (.bool false)], args := [d1, d2, d3] }
  | _ => none }
def OctetBackWrongFalsely : Prop := octetBackRow.holds Try.pinned (OpenSpec.ofChange octetBackWrong)

/-- 'ostiarylaw03.OctetParts': WHATEVER THE INPUT: true; the input reads as it did. -/
def octetPartsSpec : ChangeSpec := { name := "octetParts", fn := fun _ => fun
  | [d1, d2, d3, d4] => { results := [.lit (.bool true)], args := [d1, d2, d3, d4] }
  | _ => none }
def octetPartsRow : OpenClaim := { program := "ytjjbhpbmfpodeaa", sum := "c919bf73925b1bd6c93a716fdb0176c902f603e59538a19286850a46672779c0", func := "ostiary/ostiarylaw03.OctetParts", spec := "octetParts", unfollowed := true, recurses := true, apart := false }
def OctetPartsSaid : Prop := octetPartsRow.holds Try.pinned (OpenSpec.ofChange octetPartsSpec)

/-- ITS FALSE NEIGHBOUR: 'it returns false'. Refute it at one input. -/
def octetPartsWrong : ChangeSpec := { name := "octetParts", fn := fun _ => fun
  | [d1, d2, d3, d4] => { results := [.lit (.bool false)], args := [d1, d2, d3, d4] }
  | _ => none }
def OctetPartsWrongFalsely : Prop := octetPartsRow.holds Try.pinned (OpenSpec.ofChange octetPartsWrong)

/-- 'ostiarylaw03.OctetGets': WHATEVER THE INPUT: true; the input reads as it did. -/
def octetGetsSpec : ChangeSpec := { name := "octetGets", fn := fun _ => fun
  | [d1, d2, d3] => { results := [.lit (.bool true)], args := [d1, d2, d3] }
  | _ => none }
def octetGetsRow : OpenClaim := { program := "ytjjbhpbmfpodeaa", sum := "c919bf73925b1bd6c93a716fdb0176c902f603e59538a19286850a46672779c0", func := "ostiary/ostiarylaw03.OctetGets", spec := "octetGets", unfollowed := true, recurses := true, apart := false }
def OctetGetsSaid : Prop := octetGetsRow.holds Try.pinned (OpenSpec.ofChange octetGetsSpec)

/-- ITS FALSE NEIGHBOUR: 'it returns false'. Refute it at one input. -/
def octetGetsWrong : ChangeSpec := { name := "octetGets", fn := fun _ => fun
  | [d1, d2, d3] => { results := [.lit (.bool false)], args := [d1, d2, d3] }
  | _ => none }
def OctetGetsWrongFalsely : Prop := octetGetsRow.holds Try.pinned (OpenSpec.ofChange octetGetsWrong)

/-- 'ostiarylaw03.OctetKnown': WHATEVER THE INPUT: true; the input reads as it did. -/
def octetKnownSpec : ChangeSpec := { name := "octetKnown", fn := fun _ => fun
  | [] => { results := [.lit (.bool true)], args := [] }
  | _ => none }
def octetKnownRow : OpenClaim := { program := "ytjjbhpbmfpodeaa", sum := "c919bf73925b1bd6c93a716fdb0176c902f603e59538a19286850a46672779c0", func := "ostiary/ostiarylaw03.OctetKnown", spec := "octetKnown", unfollowed := true, recurses := true, apart := false }
def OctetKnownSaid : Prop := octetKnownRow.holds Try.pinned (OpenSpec.ofChange octetKnownSpec)

/-- ITS FALSE NEIGHBOUR: 'it returns false'. Refute it at one input. -/
def octetKnownWrong : ChangeSpec := { name := "octetKnown", fn := fun _ => fun
  | [] => { results := [.lit (.bool false)], args := [] }
  | _ => none }
def OctetKnownWrongFalsely : Prop := octetKnownRow.holds Try.pinned (OpenSpec.ofChange octetKnownWrong)

/-- 'ostiarylaw05.WireReads': WHATEVER THE INPUT: true; the input reads as it did. -/
def wireReadsSpec : ChangeSpec := { name := "wireReads", fn := fun _ => fun
  | [d1, d2] => { results := [.lit (.bool true)], args := [d1, d2] }
  | _ => none }
def wireReadsRow : OpenClaim := { program := "ytjjbhpbmfpodeaa", sum := "c919bf73925b1bd6c93a716fdb0176c902f603e59538a19286850a46672779c0", func := "ostiary/ostiarylaw05.WireReads", spec := "wireReads", unfollowed := true, recurses := true, apart := false }
def WireReadsSaid : Prop := wireReadsRow.holds Try.pinned (OpenSpec.ofChange wireReadsSpec)

/-- ITS FALSE NEIGHBOUR: 'it returns false'. Refute it at one input. -/
def wireReadsWrong : ChangeSpec := { name := "wireReads", fn := fun _ => fun
  | [d1, d2] => { results := [.lit (.bool false)], args := [d1, d2] }
  | _ => none }
def WireReadsWrongFalsely : Prop := wireReadsRow.holds Try.pinned (OpenSpec.ofChange wireReadsWrong)

/-- 'ostiarylaw05.WireEnds': WHATEVER THE INPUT: true; the input reads as it did. -/
def wireEndsSpec : ChangeSpec := { name := "wireEnds", fn := fun _ => fun
  | [d1, d2] => { results := [.lit (.bool true)], args := [d1, d2] }
  | _ => none }
def wireEndsRow : OpenClaim := { program := "ytjjbhpbmfpodeaa", sum := "c919bf73925b1bd6c93a716fdb0176c902f603e59538a19286850a46672779c0", func := "ostiary/ostiarylaw05.WireEnds", spec := "wireEnds", unfollowed := true, recurses := true, apart := false }
def WireEndsSaid : Prop := wireEndsRow.holds Try.pinned (OpenSpec.ofChange wireEndsSpec)

/-- ITS FALSE NEIGHBOUR: 'it returns false'. Refute it at one input. -/
def wireEndsWrong : ChangeSpec := { name := "wireEnds", fn := fun _ => fun
  | [d1, d2] => { results := [.lit (.bool false)], args := [d1, d2] }
  | _ => none }
def WireEndsWrongFalsely : Prop := wireEndsRow.holds Try.pinned (OpenSpec.ofChange wireEndsWrong)

/-- 'ostiarylaw05.WireBack': WHATEVER THE INPUT: true; the input reads as it did. -/
def wireBackSpec : ChangeSpec := { name := "wireBack", fn := fun _ => fun
  | [d1, d2] => { results := [.lit (.bool true)], args := [d1, d2] }
  | _ => none }
def wireBackRow : OpenClaim := { program := "ytjjbhpbmfpodeaa", sum := "c919bf73925b1bd6c93a716fdb0176c902f603e59538a19286850a46672779c0", func := "ostiary/ostiarylaw05.WireBack", spec := "wireBack", unfollowed := true, recurses := true, apart := false }
def WireBackSaid : Prop := wireBackRow.holds Try.pinned (OpenSpec.ofChange wireBackSpec)

/-- ITS FALSE NEIGHBOUR: 'it returns false'. Refute it at one input. -/
def wireBackWrong : ChangeSpec := { name := "wireBack", fn := fun _ => fun
  | [d1, d2] => { results := [.lit (.bool false)], args := [d1, d2] }
  | _ => none }
def WireBackWrongFalsely : Prop := wireBackRow.holds Try.pinned (OpenSpec.ofChange wireBackWrong)

/-- 'ostiarylaw05.WireNone': WHATEVER THE INPUT: true; the input reads as it did. -/
def wireNoneSpec : ChangeSpec := { name := "wireNone", fn := fun _ => fun
  | [d1, d2] => { results := [.lit (.bool true)], args := [d1, d2] }
  | _ => none }
def wireNoneRow : OpenClaim := { program := "ytjjbhpbmfpodeaa", sum := "c919bf73925b1bd6c93a716fdb0176c902f603e59538a19286850a46672779c0", func := "ostiary/ostiarylaw05.WireNone", spec := "wireNone", unfollowed := true, recurses := true, apart := false }
def WireNoneSaid : Prop := wireNoneRow.holds Try.pinned (OpenSpec.ofChange wireNoneSpec)

/-- ITS FALSE NEIGHBOUR: 'it returns false'. Refute it at one input. -/
def wireNoneWrong : ChangeSpec := { name := "wireNone", fn := fun _ => fun
  | [d1, d2] => { results := [.lit (.bool false)], args := [d1, d2] }
  | _ => none }
def WireNoneWrongFalsely : Prop := wireNoneRow.holds Try.pinned (OpenSpec.ofChange wireNoneWrong)

/-- 'ostiarylaw05.WirePacks': WHATEVER THE INPUT: true; the input reads as it did. -/
def wirePacksSpec : ChangeSpec := { name := "wirePacks", fn := fun _ => fun
  | [d] => { results := [.lit (.bool true)], args := [d] }
  | _ => none }
def wirePacksRow : OpenClaim := { program := "ytjjbhpbmfpodeaa", sum := "c919bf73925b1bd6c93a716fdb0176c902f603e59538a19286850a46672779c0", func := "ostiary/ostiarylaw05.WirePacks", spec := "wirePacks", unfollowed := true, recurses := true, apart := false }
def WirePacksSaid : Prop := wirePacksRow.holds Try.pinned (OpenSpec.ofChange wirePacksSpec)

/-- ITS FALSE NEIGHBOUR: 'it returns false'. Refute it at one input. -/
def wirePacksWrong : ChangeSpec := { name := "wirePacks", fn := fun _ => fun
  | [d] => { results := [.lit (.bool false)], args := [d] }
  | _ => none }
def WirePacksWrongFalsely : Prop := wirePacksRow.holds Try.pinned (OpenSpec.ofChange wirePacksWrong)

/-- 'ostiarylaw05.WireKnown': WHATEVER THE INPUT: true; the input reads as it did. -/
def wireKnownSpec : ChangeSpec := { name := "wireKnown", fn := fun _ => fun
  | [] => { results := [.lit (.bool true)], args := [] }
  | _ => none }
def wireKnownRow : OpenClaim := { program := "ytjjbhpbmfpodeaa", sum := "c919bf73925b1bd6c93a716fdb0176c902f603e59538a19286850a46672779c0", func := "ostiary/ostiarylaw05.WireKnown", spec := "wireKnown", unfollowed := true, recurses := true, apart := false }
def WireKnownSaid : Prop := wireKnownRow.holds Try.pinned (OpenSpec.ofChange wireKnownSpec)

/-- ITS FALSE NEIGHBOUR: 'it returns false'. Refute it at one input. -/
def wireKnownWrong : ChangeSpec := { name := "wireKnown", fn := fun _ => fun
  | [] => { results := [.lit (.bool false)], args := [] }
  | _ => none }
def WireKnownWrongFalsely : Prop := wireKnownRow.holds Try.pinned (OpenSpec.ofChange wireKnownWrong)

/-- 'ostiarylaw05.WireTwice': WHATEVER THE INPUT: true; the input reads as it did. -/
def wireTwiceSpec : ChangeSpec := { name := "wireTwice", fn := fun _ => fun
  | [d1, d2] => { results := [.lit (.bool true)], args := [d1, d2] }
  | _ => none }
def wireTwiceRow : OpenClaim := { program := "ytjjbhpbmfpodeaa", sum := "c919bf73925b1bd6c93a716fdb0176c902f603e59538a19286850a46672779c0", func := "ostiary/ostiarylaw05.WireTwice", spec := "wireTwice", unfollowed := true, recurses := true, apart := false }
def WireTwiceSaid : Prop := wireTwiceRow.holds Try.pinned (OpenSpec.ofChange wireTwiceSpec)

/-- ITS FALSE NEIGHBOUR: 'it returns false'. Refute it at one input. -/
def wireTwiceWrong : ChangeSpec := { name := "wireTwice", fn := fun _ => fun
  | [d1, d2] => { results := [.lit (.bool false)], args := [d1, d2] }
  | _ => none }
def WireTwiceWrongFalsely : Prop := wireTwiceRow.holds Try.pinned (OpenSpec.ofChange wireTwiceWrong)

/-- 'ostiarylaw06.RdataReadsOnly': WHATEVER THE INPUT: true; the input reads as it did. -/
def rdataReadsOnlySpec : ChangeSpec := { name := "rdataReadsOnly", fn := fun _ => fun
  | [d1, d2, d3, d4] => { results := [.lit (.bool true)], args := [d1, d2, d3, d4] }
  | _ => none }
def rdataReadsOnlyRow : OpenClaim := { program := "ytjjbhpbmfpodeaa", sum := "c919bf73925b1bd6c93a716fdb0176c902f603e59538a19286850a46672779c0", func := "ostiary/ostiarylaw06.RdataReadsOnly", spec := "rdataReadsOnly", unfollowed := true, recurses := true, apart := false }
def RdataReadsOnlySaid : Prop := rdataReadsOnlyRow.holds Try.pinned (OpenSpec.ofChange rdataReadsOnlySpec)

/-- ITS FALSE NEIGHBOUR: 'it returns false'. Refute it at one input. -/
def rdataReadsOnlyWrong : ChangeSpec := { name := "rdataReadsOnly", fn := fun _ => fun
  | [d1, d2, d3, d4] => { results := [.lit (.bool false)], args := [d1, d2, d3, d4] }
  | _ => none }
def RdataReadsOnlyWrongFalsely : Prop := rdataReadsOnlyRow.holds Try.pinned (OpenSpec.ofChange rdataReadsOnlyWrong)

/-- 'ostiarylaw07.RecChecks': WHATEVER THE INPUT: true; the input reads as it did. -/
def recChecksSpec : ChangeSpec := { name := "recChecks", fn := fun _ => fun
  | [d1, d2] => { results := [.lit (.bool true)], args := [d1, d2] }
  | _ => none }
def recChecksRow : OpenClaim := { program := "ytjjbhpbmfpodeaa", sum := "c919bf73925b1bd6c93a716fdb0176c902f603e59538a19286850a46672779c0", func := "ostiary/ostiarylaw07.RecChecks", spec := "recChecks", unfollowed := true, recurses := true, apart := false }
def RecChecksSaid : Prop := recChecksRow.holds Try.pinned (OpenSpec.ofChange recChecksSpec)

/-- ITS FALSE NEIGHBOUR: 'it returns false'. Refute it at one input. -/
def recChecksWrong : ChangeSpec := { name := "recChecks", fn := fun _ => fun
  | [d1, d2] => { results := [.lit (.bool false)], args := [d1, d2] }
  | _ => none }
def RecChecksWrongFalsely : Prop := recChecksRow.holds Try.pinned (OpenSpec.ofChange recChecksWrong)

/-- 'ostiarylaw07.RecSames': WHATEVER THE INPUT: true; the input reads as it did. -/
def recSamesSpec : ChangeSpec := { name := "recSames", fn := fun _ => fun
  | [d1, d2, d3, d4] => { results := [.lit (.bool true)], args := [d1, d2, d3, d4] }
  | _ => none }
def recSamesRow : OpenClaim := { program := "ytjjbhpbmfpodeaa", sum := "c919bf73925b1bd6c93a716fdb0176c902f603e59538a19286850a46672779c0", func := "ostiary/ostiarylaw07.RecSames", spec := "recSames", unfollowed := true, recurses := true, apart := false }
def RecSamesSaid : Prop := recSamesRow.holds Try.pinned (OpenSpec.ofChange recSamesSpec)

/-- ITS FALSE NEIGHBOUR: 'it returns false'. Refute it at one input. -/
def recSamesWrong : ChangeSpec := { name := "recSames", fn := fun _ => fun
  | [d1, d2, d3, d4] => { results := [.lit (.bool false)], args := [d1, d2, d3, d4] }
  | _ => none }
def RecSamesWrongFalsely : Prop := recSamesRow.holds Try.pinned (OpenSpec.ofChange recSamesWrong)

/-- 'ostiarylaw06.RdataKnown': WHATEVER THE INPUT: true; the input reads as it did. -/
def rdataKnownSpec : ChangeSpec := { name := "rdataKnown", fn := fun _ => fun
  | [] => { results := [.lit (.bool true)], args := [] }
  | _ => none }
def rdataKnownRow : OpenClaim := { program := "ytjjbhpbmfpodeaa", sum := "c919bf73925b1bd6c93a716fdb0176c902f603e59538a19286850a46672779c0", func := "ostiary/ostiarylaw06.RdataKnown", spec := "rdataKnown", unfollowed := true, recurses := true, apart := false }
def RdataKnownSaid : Prop := rdataKnownRow.holds Try.pinned (OpenSpec.ofChange rdataKnownSpec)

/-- ITS FALSE NEIGHBOUR: 'it returns false'. Refute it at one input. -/
def rdataKnownWrong : ChangeSpec := { name := "rdataKnown", fn := fun _ => fun
  | [] => { results := [.lit (.bool false)], args := [] }
  | _ => none }
def RdataKnownWrongFalsely : Prop := rdataKnownRow.holds Try.pinned (OpenSpec.ofChange rdataKnownWrong)

/-- 'ostiarylaw06.RdataLower': WHATEVER THE INPUT: true; the input reads as it did. -/
def rdataLowerSpec : ChangeSpec := { name := "rdataLower", fn := fun _ => fun
  | [d1, d2] => { results := [.lit (.bool true)], args := [d1, d2] }
  | _ => none }
def rdataLowerRow : OpenClaim := { program := "ytjjbhpbmfpodeaa", sum := "c919bf73925b1bd6c93a716fdb0176c902f603e59538a19286850a46672779c0", func := "ostiary/ostiarylaw06.RdataLower", spec := "rdataLower", unfollowed := true, recurses := true, apart := false }
def RdataLowerSaid : Prop := rdataLowerRow.holds Try.pinned (OpenSpec.ofChange rdataLowerSpec)

/-- ITS FALSE NEIGHBOUR: 'it returns false'. Refute it at one input. -/
def rdataLowerWrong : ChangeSpec := { name := "rdataLower", fn := fun _ => fun
  | [d1, d2] => { results := [.lit (.bool false)], args := [d1, d2] }
  | _ => none }
def RdataLowerWrongFalsely : Prop := rdataLowerRow.holds Try.pinned (OpenSpec.ofChange rdataLowerWrong)

/-- 'ostiarylaw07.RecWrites': WHATEVER THE INPUT: true; the input reads as it did. -/
def recWritesSpec : ChangeSpec := { name := "recWrites", fn := fun _ => fun
  | [d] => { results := [.lit (.bool true)], args := [d] }
  | _ => none }
def recWritesRow : OpenClaim := { program := "ytjjbhpbmfpodeaa", sum := "c919bf73925b1bd6c93a716fdb0176c902f603e59538a19286850a46672779c0", func := "ostiary/ostiarylaw07.RecWrites", spec := "recWrites", unfollowed := true, recurses := true, apart := false }
def RecWritesSaid : Prop := recWritesRow.holds Try.pinned (OpenSpec.ofChange recWritesSpec)

/-- ITS FALSE NEIGHBOUR: 'it returns false'. Refute it at one input. -/
def recWritesWrong : ChangeSpec := { name := "recWrites", fn := fun _ => fun
  | [d] => { results := [.lit (.bool false)], args := [d] }
  | _ => none }
def RecWritesWrongFalsely : Prop := recWritesRow.holds Try.pinned (OpenSpec.ofChange recWritesWrong)

/-- 'ostiarylaw06.RdataChecks': WHATEVER THE INPUT: true; the input reads as it did. -/
def rdataChecksSpec : ChangeSpec := { name := "rdataChecks", fn := fun _ => fun
  | [d1, d2] => { results := [.lit (.bool true)], args := [d1, d2] }
  | _ => none }
def rdataChecksRow : OpenClaim := { program := "ytjjbhpbmfpodeaa", sum := "c919bf73925b1bd6c93a716fdb0176c902f603e59538a19286850a46672779c0", func := "ostiary/ostiarylaw06.RdataChecks", spec := "rdataChecks", unfollowed := true, recurses := true, apart := false }
def RdataChecksSaid : Prop := rdataChecksRow.holds Try.pinned (OpenSpec.ofChange rdataChecksSpec)

/-- ITS FALSE NEIGHBOUR: 'it returns false'. Refute it at one input. -/
def rdataChecksWrong : ChangeSpec := { name := "rdataChecks", fn := fun _ => fun
  | [d1, d2] => { results := [.lit (.bool false)], args := [d1, d2] }
  | _ => none }
def RdataChecksWrongFalsely : Prop := rdataChecksRow.holds Try.pinned (OpenSpec.ofChange rdataChecksWrong)

/-- 'ostiarylaw06.RdataBack': WHATEVER THE INPUT: true; the input reads as it did. -/
def rdataBackSpec : ChangeSpec := { name := "rdataBack", fn := fun _ => fun
  | [d1, d2] => { results := [.lit (.bool true)], args := [d1, d2] }
  | _ => none }
def rdataBackRow : OpenClaim := { program := "ytjjbhpbmfpodeaa", sum := "c919bf73925b1bd6c93a716fdb0176c902f603e59538a19286850a46672779c0", func := "ostiary/ostiarylaw06.RdataBack", spec := "rdataBack", unfollowed := true, recurses := true, apart := false }
def RdataBackSaid : Prop := rdataBackRow.holds Try.pinned (OpenSpec.ofChange rdataBackSpec)

/-- ITS FALSE NEIGHBOUR: 'it returns false'. Refute it at one input. -/
def rdataBackWrong : ChangeSpec := { name := "rdataBack", fn := fun _ => fun
  | [d1, d2] => { results := [.lit (.bool false)], args := [d1, d2] }
  | _ => none }
def RdataBackWrongFalsely : Prop := rdataBackRow.holds Try.pinned (OpenSpec.ofChange rdataBackWrong)

/-- 'ostiarylaw06.RdataWrites': WHATEVER THE INPUT: true; the input reads as it did. -/
def rdataWritesSpec : ChangeSpec := { name := "rdataWrites", fn := fun _ => fun
  | [d] => { results := [.lit (.bool true)], args := [d] }
  | _ => none }
def rdataWritesRow : OpenClaim := { program := "ytjjbhpbmfpodeaa", sum := "c919bf73925b1bd6c93a716fdb0176c902f603e59538a19286850a46672779c0", func := "ostiary/ostiarylaw06.RdataWrites", spec := "rdataWrites", unfollowed := true, recurses := true, apart := false }
def RdataWritesSaid : Prop := rdataWritesRow.holds Try.pinned (OpenSpec.ofChange rdataWritesSpec)

/-- ITS FALSE NEIGHBOUR: 'it returns false'. Refute it at one input. -/
def rdataWritesWrong : ChangeSpec := { name := "rdataWrites", fn := fun _ => fun
  | [d] => { results := [.lit (.bool false)], args := [d] }
  | _ => none }
def RdataWritesWrongFalsely : Prop := rdataWritesRow.holds Try.pinned (OpenSpec.ofChange rdataWritesWrong)

/-- 'ostiarylaw07.RecReads': WHATEVER THE INPUT: true; the input reads as it did. -/
def recReadsSpec : ChangeSpec := { name := "recReads", fn := fun _ => fun
  | [d1, d2] => { results := [.lit (.bool true)], args := [d1, d2] }
  | _ => none }
def recReadsRow : OpenClaim := { program := "ytjjbhpbmfpodeaa", sum := "c919bf73925b1bd6c93a716fdb0176c902f603e59538a19286850a46672779c0", func := "ostiary/ostiarylaw07.RecReads", spec := "recReads", unfollowed := true, recurses := true, apart := false }
def RecReadsSaid : Prop := recReadsRow.holds Try.pinned (OpenSpec.ofChange recReadsSpec)

/-- ITS FALSE NEIGHBOUR: 'it returns false'. Refute it at one input. -/
def recReadsWrong : ChangeSpec := { name := "recReads", fn := fun _ => fun
  | [d1, d2] => { results := [.lit (.bool false)], args := [d1, d2] }
  | _ => none }
def RecReadsWrongFalsely : Prop := recReadsRow.holds Try.pinned (OpenSpec.ofChange recReadsWrong)

/-- 'ostiarylaw07.RecReadsOnly': WHATEVER THE INPUT: true; the input reads as it did. -/
def recReadsOnlySpec : ChangeSpec := { name := "recReadsOnly", fn := fun _ => fun
  | [d1, d2] => { results := [.lit (.bool true)], args := [d1, d2] }
  | _ => none }
def recReadsOnlyRow : OpenClaim := { program := "ytjjbhpbmfpodeaa", sum := "c919bf73925b1bd6c93a716fdb0176c902f603e59538a19286850a46672779c0", func := "ostiary/ostiarylaw07.RecReadsOnly", spec := "recReadsOnly", unfollowed := true, recurses := true, apart := false }
def RecReadsOnlySaid : Prop := recReadsOnlyRow.holds Try.pinned (OpenSpec.ofChange recReadsOnlySpec)

/-- ITS FALSE NEIGHBOUR: 'it returns false'. Refute it at one input. -/
def recReadsOnlyWrong : ChangeSpec := { name := "recReadsOnly", fn := fun _ => fun
  | [d1, d2] => { results := [.lit (.bool false)], args := [d1, d2] }
  | _ => none }
def RecReadsOnlyWrongFalsely : Prop := recReadsOnlyRow.holds Try.pinned (OpenSpec.ofChange recReadsOnlyWrong)

/-- 'ostiarylaw07.RecKnown': WHATEVER THE INPUT: true; the input reads as it did. -/
def recKnownSpec : ChangeSpec := { name := "recKnown", fn := fun _ => fun
  | [] => { results := [.lit (.bool true)], args := [] }
  | _ => none }
def recKnownRow : OpenClaim := { program := "ytjjbhpbmfpodeaa", sum := "c919bf73925b1bd6c93a716fdb0176c902f603e59538a19286850a46672779c0", func := "ostiary/ostiarylaw07.RecKnown", spec := "recKnown", unfollowed := true, recurses := true, apart := false }
def RecKnownSaid : Prop := recKnownRow.holds Try.pinned (OpenSpec.ofChange recKnownSpec)

/-- ITS FALSE NEIGHBOUR: 'it returns false'. Refute it at one input. -/
def recKnownWrong : ChangeSpec := { name := "recKnown", fn := fun _ => fun
  | [] => { results := [.lit (.bool false)], args := [] }
  | _ => none }
def RecKnownWrongFalsely : Prop := recKnownRow.holds Try.pinned (OpenSpec.ofChange recKnownWrong)

/-- 'ostiarylaw07.RecBack': WHATEVER THE INPUT: true; the input reads as it did. -/
def recBackSpec : ChangeSpec := { name := "recBack", fn := fun _ => fun
  | [d1, d2] => { results := [.lit (.bool true)], args := [d1, d2] }
  | _ => none }
def recBackRow : OpenClaim := { program := "ytjjbhpbmfpodeaa", sum := "c919bf73925b1bd6c93a716fdb0176c902f603e59538a19286850a46672779c0", func := "ostiary/ostiarylaw07.RecBack", spec := "recBack", unfollowed := true, recurses := true, apart := false }
def RecBackSaid : Prop := recBackRow.holds Try.pinned (OpenSpec.ofChange recBackSpec)

/-- ITS FALSE NEIGHBOUR: 'it returns false'. Refute it at one input. -/
def recBackWrong : ChangeSpec := { name := "recBack", fn := fun _ => fun
  | [d1, d2] => { results := [.lit (.bool false)], args := [d1, d2] }
  | _ => none }
def RecBackWrongFalsely : Prop := recBackRow.holds Try.pinned (OpenSpec.ofChange recBackWrong)

/- THE SECOND FORM. 'bulk': how many values and letters a reading holds, each counted each time it is reached (what is shared counts as often as it is met; a slice's spare places count too). A statement '..UptoSaid' is the law's where the arguments, and the package variables that the reading takes, are together of bulk at most 1048576: NARROWER than '..Said'. Prove '..Said' where nothing that the law and all that it calls make is longer than what came in: it says more and counts as full. Else prove '..UptoSaid'. A law counts once. -/
mutual
def uptoBulk {H : Type} : DataW H → Nat
  | .lit (.string bytes) => bytes.length + 1
  | .lit _ => 1
  | .nil => 1
  | .ptr d => uptoBulk d + 1
  | .slice elems spare => uptoBulkAll elems + uptoBulkAll spare + 1
  | .agg parts => uptoBulkAll parts + 1
  | .iface _ d => uptoBulk d + 1
  | .map entries => uptoBulkEntries entries + 1
  | .held _ => 1
def uptoBulkAll {H : Type} : List (DataW H) → Nat
  | [] => 0
  | d :: r => uptoBulk d + uptoBulkAll r
def uptoBulkEntries {H : Type} : List (Lit × DataW H) → Nat
  | [] => 0
  | x :: r => uptoBulkEntry x + uptoBulkEntries r
def uptoBulkEntry {H : Type} : Lit × DataW H → Nat
  | (.string bytes, d) => bytes.length + uptoBulk d + 1
  | (_, d) => uptoBulk d + 1
 end
def uptoSmall : (H : Type) → List (DataW H) → Bool := fun _ ds => decide (uptoBulkAll ds ≤ 1048576)
def OpenSpec.upto (s : _root_.Go.ChangeSpec) : _root_.Go.OpenSpec := { _root_.Go.OpenSpec.ofChange s with cond := some uptoSmall }

/-- 'ostiarylaw03.OctetPuts', WHERE WHAT IT READS IS OF BULK AT MOST 1048576: true; the input reads as it did. -/
def octetPutsUptoRow : OpenClaim := { program := "ytjjbhpbmfpodeaa", sum := "c919bf73925b1bd6c93a716fdb0176c902f603e59538a19286850a46672779c0", func := "ostiary/ostiarylaw03.OctetPuts", spec := "octetPuts", unfollowed := true, recurses := true, apart := false, narrowed := true }
def OctetPutsUptoSaid : Prop := octetPutsUptoRow.holds Try.pinned (OpenSpec.upto octetPutsSpec)

/-- 'ostiarylaw03.OctetBack', WHERE WHAT IT READS IS OF BULK AT MOST 1048576: true; the input reads as it did. -/
def octetBackUptoRow : OpenClaim := { program := "ytjjbhpbmfpodeaa", sum := "c919bf73925b1bd6c93a716fdb0176c902f603e59538a19286850a46672779c0", func := "ostiary/ostiarylaw03.OctetBack", spec := "octetBack", unfollowed := true, recurses := true, apart := false, narrowed := true }
def OctetBackUptoSaid : Prop := octetBackUptoRow.holds Try.pinned (OpenSpec.upto octetBackSpec)

/-- 'ostiarylaw03.OctetParts', WHERE WHAT IT READS IS OF BULK AT MOST 1048576: true; the input reads as it did. -/
def octetPartsUptoRow : OpenClaim := { program := "ytjjbhpbmfpodeaa", sum := "c919bf73925b1bd6c93a716fdb0176c902f603e59538a19286850a46672779c0", func := "ostiary/ostiarylaw03.OctetParts", spec := "octetParts", unfollowed := true, recurses := true, apart := false, narrowed := true }
def OctetPartsUptoSaid : Prop := octetPartsUptoRow.holds Try.pinned (OpenSpec.upto octetPartsSpec)

/-- 'ostiarylaw03.OctetGets', WHERE WHAT IT READS IS OF BULK AT MOST 1048576: true; the input reads as it did. -/
def octetGetsUptoRow : OpenClaim := { program := "ytjjbhpbmfpodeaa", sum := "c919bf73925b1bd6c93a716fdb0176c902f603e59538a19286850a46672779c0", func := "ostiary/ostiarylaw03.OctetGets", spec := "octetGets", unfollowed := true, recurses := true, apart := false, narrowed := true }
def OctetGetsUptoSaid : Prop := octetGetsUptoRow.holds Try.pinned (OpenSpec.upto octetGetsSpec)

/-- 'ostiarylaw03.OctetKnown', WHERE WHAT IT READS IS OF BULK AT MOST 1048576: true; the input reads as it did. -/
def octetKnownUptoRow : OpenClaim := { program := "ytjjbhpbmfpodeaa", sum := "c919bf73925b1bd6c93a716fdb0176c902f603e59538a19286850a46672779c0", func := "ostiary/ostiarylaw03.OctetKnown", spec := "octetKnown", unfollowed := true, recurses := true, apart := false, narrowed := true }
def OctetKnownUptoSaid : Prop := octetKnownUptoRow.holds Try.pinned (OpenSpec.upto octetKnownSpec)

/-- 'ostiarylaw05.WireReads', WHERE WHAT IT READS IS OF BULK AT MOST 1048576: true; the input reads as it did. -/
def wireReadsUptoRow : OpenClaim := { program := "ytjjbhpbmfpodeaa", sum := "c919bf73925b1bd6c93a716fdb0176c902f603e59538a19286850a46672779c0", func := "ostiary/ostiarylaw05.WireReads", spec := "wireReads", unfollowed := true, recurses := true, apart := false, narrowed := true }
def WireReadsUptoSaid : Prop := wireReadsUptoRow.holds Try.pinned (OpenSpec.upto wireReadsSpec)

/-- 'ostiarylaw05.WireEnds', WHERE WHAT IT READS IS OF BULK AT MOST 1048576: true; the input reads as it did. -/
def wireEndsUptoRow : OpenClaim := { program := "ytjjbhpbmfpodeaa", sum := "c919bf73925b1bd6c93a716fdb0176c902f603e59538a19286850a46672779c0", func := "ostiary/ostiarylaw05.WireEnds", spec := "wireEnds", unfollowed := true, recurses := true, apart := false, narrowed := true }
def WireEndsUptoSaid : Prop := wireEndsUptoRow.holds Try.pinned (OpenSpec.upto wireEndsSpec)

/-- 'ostiarylaw05.WireBack', WHERE WHAT IT READS IS OF BULK AT MOST 1048576: true; the input reads as it did. -/
def wireBackUptoRow : OpenClaim := { program := "ytjjbhpbmfpodeaa", sum := "c919bf73925b1bd6c93a716fdb0176c902f603e59538a19286850a46672779c0", func := "ostiary/ostiarylaw05.WireBack", spec := "wireBack", unfollowed := true, recurses := true, apart := false, narrowed := true }
def WireBackUptoSaid : Prop := wireBackUptoRow.holds Try.pinned (OpenSpec.upto wireBackSpec)

/-- 'ostiarylaw05.WireNone', WHERE WHAT IT READS IS OF BULK AT MOST 1048576: true; the input reads as it did. -/
def wireNoneUptoRow : OpenClaim := { program := "ytjjbhpbmfpodeaa", sum := "c919bf73925b1bd6c93a716fdb0176c902f603e59538a19286850a46672779c0", func := "ostiary/ostiarylaw05.WireNone", spec := "wireNone", unfollowed := true, recurses := true, apart := false, narrowed := true }
def WireNoneUptoSaid : Prop := wireNoneUptoRow.holds Try.pinned (OpenSpec.upto wireNoneSpec)

/-- 'ostiarylaw05.WirePacks', WHERE WHAT IT READS IS OF BULK AT MOST 1048576: true; the input reads as it did. -/
def wirePacksUptoRow : OpenClaim := { program := "ytjjbhpbmfpodeaa", sum := "c919bf73925b1bd6c93a716fdb0176c902f603e59538a19286850a46672779c0", func := "ostiary/ostiarylaw05.WirePacks", spec := "wirePacks", unfollowed := true, recurses := true, apart := false, narrowed := true }
def WirePacksUptoSaid : Prop := wirePacksUptoRow.holds Try.pinned (OpenSpec.upto wirePacksSpec)

/-- 'ostiarylaw05.WireKnown', WHERE WHAT IT READS IS OF BULK AT MOST 1048576: true; the input reads as it did. -/
def wireKnownUptoRow : OpenClaim := { program := "ytjjbhpbmfpodeaa", sum := "c919bf73925b1bd6c93a716fdb0176c902f603e59538a19286850a46672779c0", func := "ostiary/ostiarylaw05.WireKnown", spec := "wireKnown", unfollowed := true, recurses := true, apart := false, narrowed := true }
def WireKnownUptoSaid : Prop := wireKnownUptoRow.holds Try.pinned (OpenSpec.upto wireKnownSpec)

/-- 'ostiarylaw05.WireTwice', WHERE WHAT IT READS IS OF BULK AT MOST 1048576: true; the input reads as it did. -/
def wireTwiceUptoRow : OpenClaim := { program := "ytjjbhpbmfpodeaa", sum := "c919bf73925b1bd6c93a716fdb0176c902f603e59538a19286850a46672779c0", func := "ostiary/ostiarylaw05.WireTwice", spec := "wireTwice", unfollowed := true, recurses := true, apart := false, narrowed := true }
def WireTwiceUptoSaid : Prop := wireTwiceUptoRow.holds Try.pinned (OpenSpec.upto wireTwiceSpec)

/-- 'ostiarylaw06.RdataReadsOnly', WHERE WHAT IT READS IS OF BULK AT MOST 1048576: true; the input reads as it did. -/
def rdataReadsOnlyUptoRow : OpenClaim := { program := "ytjjbhpbmfpodeaa", sum := "c919bf73925b1bd6c93a716fdb0176c902f603e59538a19286850a46672779c0", func := "ostiary/ostiarylaw06.RdataReadsOnly", spec := "rdataReadsOnly", unfollowed := true, recurses := true, apart := false, narrowed := true }
def RdataReadsOnlyUptoSaid : Prop := rdataReadsOnlyUptoRow.holds Try.pinned (OpenSpec.upto rdataReadsOnlySpec)

/-- 'ostiarylaw07.RecChecks', WHERE WHAT IT READS IS OF BULK AT MOST 1048576: true; the input reads as it did. -/
def recChecksUptoRow : OpenClaim := { program := "ytjjbhpbmfpodeaa", sum := "c919bf73925b1bd6c93a716fdb0176c902f603e59538a19286850a46672779c0", func := "ostiary/ostiarylaw07.RecChecks", spec := "recChecks", unfollowed := true, recurses := true, apart := false, narrowed := true }
def RecChecksUptoSaid : Prop := recChecksUptoRow.holds Try.pinned (OpenSpec.upto recChecksSpec)

/-- 'ostiarylaw07.RecSames', WHERE WHAT IT READS IS OF BULK AT MOST 1048576: true; the input reads as it did. -/
def recSamesUptoRow : OpenClaim := { program := "ytjjbhpbmfpodeaa", sum := "c919bf73925b1bd6c93a716fdb0176c902f603e59538a19286850a46672779c0", func := "ostiary/ostiarylaw07.RecSames", spec := "recSames", unfollowed := true, recurses := true, apart := false, narrowed := true }
def RecSamesUptoSaid : Prop := recSamesUptoRow.holds Try.pinned (OpenSpec.upto recSamesSpec)

/-- 'ostiarylaw06.RdataKnown', WHERE WHAT IT READS IS OF BULK AT MOST 1048576: true; the input reads as it did. -/
def rdataKnownUptoRow : OpenClaim := { program := "ytjjbhpbmfpodeaa", sum := "c919bf73925b1bd6c93a716fdb0176c902f603e59538a19286850a46672779c0", func := "ostiary/ostiarylaw06.RdataKnown", spec := "rdataKnown", unfollowed := true, recurses := true, apart := false, narrowed := true }
def RdataKnownUptoSaid : Prop := rdataKnownUptoRow.holds Try.pinned (OpenSpec.upto rdataKnownSpec)

/-- 'ostiarylaw06.RdataLower', WHERE WHAT IT READS IS OF BULK AT MOST 1048576: true; the input reads as it did. -/
def rdataLowerUptoRow : OpenClaim := { program := "ytjjbhpbmfpodeaa", sum := "c919bf73925b1bd6c93a716fdb0176c902f603e59538a19286850a46672779c0", func := "ostiary/ostiarylaw06.RdataLower", spec := "rdataLower", unfollowed := true, recurses := true, apart := false, narrowed := true }
def RdataLowerUptoSaid : Prop := rdataLowerUptoRow.holds Try.pinned (OpenSpec.upto rdataLowerSpec)

/-- 'ostiarylaw07.RecWrites', WHERE WHAT IT READS IS OF BULK AT MOST 1048576: true; the input reads as it did. -/
def recWritesUptoRow : OpenClaim := { program := "ytjjbhpbmfpodeaa", sum := "c919bf73925b1bd6c93a716fdb0176c902f603e59538a19286850a46672779c0", func := "ostiary/ostiarylaw07.RecWrites", spec := "recWrites", unfollowed := true, recurses := true, apart := false, narrowed := true }
def RecWritesUptoSaid : Prop := recWritesUptoRow.holds Try.pinned (OpenSpec.upto recWritesSpec)

/-- 'ostiarylaw06.RdataChecks', WHERE WHAT IT READS IS OF BULK AT MOST 1048576: true; the input reads as it did. -/
def rdataChecksUptoRow : OpenClaim := { program := "ytjjbhpbmfpodeaa", sum := "c919bf73925b1bd6c93a716fdb0176c902f603e59538a19286850a46672779c0", func := "ostiary/ostiarylaw06.RdataChecks", spec := "rdataChecks", unfollowed := true, recurses := true, apart := false, narrowed := true }
def RdataChecksUptoSaid : Prop := rdataChecksUptoRow.holds Try.pinned (OpenSpec.upto rdataChecksSpec)

/-- 'ostiarylaw06.RdataBack', WHERE WHAT IT READS IS OF BULK AT MOST 1048576: true; the input reads as it did. -/
def rdataBackUptoRow : OpenClaim := { program := "ytjjbhpbmfpodeaa", sum := "c919bf73925b1bd6c93a716fdb0176c902f603e59538a19286850a46672779c0", func := "ostiary/ostiarylaw06.RdataBack", spec := "rdataBack", unfollowed := true, recurses := true, apart := false, narrowed := true }
def RdataBackUptoSaid : Prop := rdataBackUptoRow.holds Try.pinned (OpenSpec.upto rdataBackSpec)

/-- 'ostiarylaw06.RdataWrites', WHERE WHAT IT READS IS OF BULK AT MOST 1048576: true; the input reads as it did. -/
def rdataWritesUptoRow : OpenClaim := { program := "ytjjbhpbmfpodeaa", sum := "c919bf73925b1bd6c93a716fdb0176c902f603e59538a19286850a46672779c0", func := "ostiary/ostiarylaw06.RdataWrites", spec := "rdataWrites", unfollowed := true, recurses := true, apart := false, narrowed := true }
def RdataWritesUptoSaid : Prop := rdataWritesUptoRow.holds Try.pinned (OpenSpec.upto rdataWritesSpec)

/-- 'ostiarylaw07.RecReads', WHERE WHAT IT READS IS OF BULK AT MOST 1048576: true; the input reads as it did. -/
def recReadsUptoRow : OpenClaim := { program := "ytjjbhpbmfpodeaa", sum := "c919bf73925b1bd6c93a716fdb0176c902f603e59538a19286850a46672779c0", func := "ostiary/ostiarylaw07.RecReads", spec := "recReads", unfollowed := true, recurses := true, apart := false, narrowed := true }
def RecReadsUptoSaid : Prop := recReadsUptoRow.holds Try.pinned (OpenSpec.upto recReadsSpec)

/-- 'ostiarylaw07.RecReadsOnly', WHERE WHAT IT READS IS OF BULK AT MOST 1048576: true; the input reads as it did. -/
def recReadsOnlyUptoRow : OpenClaim := { program := "ytjjbhpbmfpodeaa", sum := "c919bf73925b1bd6c93a716fdb0176c902f603e59538a19286850a46672779c0", func := "ostiary/ostiarylaw07.RecReadsOnly", spec := "recReadsOnly", unfollowed := true, recurses := true, apart := false, narrowed := true }
def RecReadsOnlyUptoSaid : Prop := recReadsOnlyUptoRow.holds Try.pinned (OpenSpec.upto recReadsOnlySpec)

/-- 'ostiarylaw07.RecKnown', WHERE WHAT IT READS IS OF BULK AT MOST 1048576: true; the input reads as it did. -/
def recKnownUptoRow : OpenClaim := { program := "ytjjbhpbmfpodeaa", sum := "c919bf73925b1bd6c93a716fdb0176c902f603e59538a19286850a46672779c0", func := "ostiary/ostiarylaw07.RecKnown", spec := "recKnown", unfollowed := true, recurses := true, apart := false, narrowed := true }
def RecKnownUptoSaid : Prop := recKnownUptoRow.holds Try.pinned (OpenSpec.upto recKnownSpec)

/-- 'ostiarylaw07.RecBack', WHERE WHAT IT READS IS OF BULK AT MOST 1048576: true; the input reads as it did. -/
def recBackUptoRow : OpenClaim := { program := "ytjjbhpbmfpodeaa", sum := "c919bf73925b1bd6c93a716fdb0176c902f603e59538a19286850a46672779c0", func := "ostiary/ostiarylaw07.RecBack", spec := "recBack", unfollowed := true, recurses := true, apart := false, narrowed := true }
def RecBackUptoSaid : Prop := recBackUptoRow.holds Try.pinned (OpenSpec.upto recBackSpec)

end Rows
end Go.Proofs.Ytjjbhpbmfpodeaa
