/-
  NARROWER THAN 'FOR EVERY INPUT', by the rows' own cells (each row's printed sentence says how): DagJoins: laid · DagNexts: laid · DagPlays: laid · DagPasts: laid · DagAny: laid · DagForks: laid · DagClosed: laid · DagOrders: laid · PeerNobody: laid · PeerEven: laid · PeerSyncs: laid · PeerPlays: laid · PeerGrows: laid.
  DERIVED. THE GIVEN ROWS OF THIS SEAT. 13 by the template 'for every input the law returns true; each argument reads behind the call as it read before'; 0 by the template 'total and deterministic' (their statements: YtpcbnjbpdooejaaGreatDoorTotals.lean).
  GIVEN WITH THE SEED: the statements are not yours to turn. If you find one false, say at which input.
  Laid BY PROGRAM, IN A SANDBOX (cutbox-rows.mjs): the forced cells as the released guide's own fill.sh prints them over the translation 7426c9a35bbc991e… (all of the seat's roots in one cut). By AI agents, Wed Nov 11 2026. No macro, syntax, notation, axiom, sorry.
-/
import Derived.Test.YtpcbnjbpdooejaaGreatDoorChecked
import GoSem.Claim
import GoSem.ClaimJoined
import GoSem.ClaimMapViews
import Derived.JoinedTies
import Derived.KernelRfl
namespace Go.Proofs.YtpcbnjbpdooejaaGreatDoor
/- THE CELL 'sum', in the pinned program and in every row, IS THE sha256 OF THE DUMP (.gsa) THAT YtpcbnjbpdooejaaGreatDoorProg.lean LOADS. Nothing in Lean hashes anything: it is a label: what it is worth is what the hold of that sum in a sandbox is worth. -/
noncomputable def Tryz.pinned : Pinned := { name := "ytpcbnjbpdooejaagreatdoor", sum := "7426c9a35bbc991efbde2fc75dca90afd392ce5f18c27bcf50995f020b3c0bc5", checked := Tryz.checked }
namespace Rows
def none {H : Type} : Left H := { results := [], args := [] }

/- WHAT THE LISTED PACKAGE-LEVEL VARIABLES READ AS WHEN THE CALL BEGINS. Each datum BY PROGRAM (the guide's laid-datum.mjs) off the statement by which the dump's own 'gosem.cut.vars' lays the variable. In a bare row this is a premise. The card (YtpcbnjbpdooejaaGreatDoorCards.lean) ties it to the program's text. -/
def laid_stemma_sha_rounds {H : Type} : DataW H := .agg [.lit (.int .u32 1116352408), .lit (.int .u32 1899447441), .lit (.int .u32 3049323471), .lit (.int .u32 3921009573), .lit (.int .u32 961987163), .lit (.int .u32 1508970993), .lit (.int .u32 2453635748), .lit (.int .u32 2870763221), .lit (.int .u32 3624381080), .lit (.int .u32 310598401), .lit (.int .u32 607225278), .lit (.int .u32 1426881987), .lit (.int .u32 1925078388), .lit (.int .u32 2162078206), .lit (.int .u32 2614888103), .lit (.int .u32 3248222580), .lit (.int .u32 3835390401), .lit (.int .u32 4022224774), .lit (.int .u32 264347078), .lit (.int .u32 604807628), .lit (.int .u32 770255983), .lit (.int .u32 1249150122), .lit (.int .u32 1555081692), .lit (.int .u32 1996064986), .lit (.int .u32 2554220882), .lit (.int .u32 2821834349), .lit (.int .u32 2952996808), .lit (.int .u32 3210313671), .lit (.int .u32 3336571891), .lit (.int .u32 3584528711), .lit (.int .u32 113926993), .lit (.int .u32 338241895), .lit (.int .u32 666307205), .lit (.int .u32 773529912), .lit (.int .u32 1294757372), .lit (.int .u32 1396182291), .lit (.int .u32 1695183700), .lit (.int .u32 1986661051), .lit (.int .u32 2177026350), .lit (.int .u32 2456956037), .lit (.int .u32 2730485921), .lit (.int .u32 2820302411), .lit (.int .u32 3259730800), .lit (.int .u32 3345764771), .lit (.int .u32 3516065817), .lit (.int .u32 3600352804), .lit (.int .u32 4094571909), .lit (.int .u32 275423344), .lit (.int .u32 430227734), .lit (.int .u32 506948616), .lit (.int .u32 659060556), .lit (.int .u32 883997877), .lit (.int .u32 958139571), .lit (.int .u32 1322822218), .lit (.int .u32 1537002063), .lit (.int .u32 1747873779), .lit (.int .u32 1955562222), .lit (.int .u32 2024104815), .lit (.int .u32 2227730452), .lit (.int .u32 2361852424), .lit (.int .u32 2428436474), .lit (.int .u32 2756734187), .lit (.int .u32 3204031479), .lit (.int .u32 3329325298)]
def laid_stemma_sha_begin {H : Type} : DataW H := .agg [.lit (.int .u32 1779033703), .lit (.int .u32 3144134277), .lit (.int .u32 1013904242), .lit (.int .u32 2773480762), .lit (.int .u32 1359893119), .lit (.int .u32 2600822924), .lit (.int .u32 528734635), .lit (.int .u32 1541459225)]

/-- 'stemmalaw10.DagJoins': WHATEVER THE INPUT: true; the input reads as it did. -/
def dagJoinsSpec : ChangeSpec := { name := "dagJoins", fn := fun _ => fun
  | [d1, d2, d3] => { results := [.lit (.bool true)], args := [d1, d2, d3] }
  | _ => none }
def dagJoinsRow : OpenClaim := { program := "ytpcbnjbpdooejaagreatdoor", sum := "7426c9a35bbc991efbde2fc75dca90afd392ce5f18c27bcf50995f020b3c0bc5", func := "stemma/stemmalaw10.DagJoins", spec := "dagJoins", unfollowed := true, recurses := true, named := ["stemma/sha.begin", "stemma/sha.rounds"], plainKeys := false, apart := false, laid := [("stemma/sha.rounds", laid_stemma_sha_rounds), ("stemma/sha.begin", laid_stemma_sha_begin)] }
def DagJoinsSaid : Prop := dagJoinsRow.holds Tryz.pinned (OpenSpec.ofChange dagJoinsSpec)

/-- ITS FALSE NEIGHBOUR: 'it returns false'. Refute it at one input. -/
def dagJoinsWrong : ChangeSpec := { name := "dagJoins", fn := fun _ => fun
  | [d1, d2, d3] => { results := [.lit (.bool false)], args := [d1, d2, d3] }
  | _ => none }
def DagJoinsWrongFalsely : Prop := dagJoinsRow.holds Tryz.pinned (OpenSpec.ofChange dagJoinsWrong)

/-- 'stemmalaw10.DagNexts': WHATEVER THE INPUT: true; the input reads as it did. -/
def dagNextsSpec : ChangeSpec := { name := "dagNexts", fn := fun _ => fun
  | [d1, d2, d3] => { results := [.lit (.bool true)], args := [d1, d2, d3] }
  | _ => none }
def dagNextsRow : OpenClaim := { program := "ytpcbnjbpdooejaagreatdoor", sum := "7426c9a35bbc991efbde2fc75dca90afd392ce5f18c27bcf50995f020b3c0bc5", func := "stemma/stemmalaw10.DagNexts", spec := "dagNexts", unfollowed := true, recurses := true, named := ["stemma/sha.begin", "stemma/sha.rounds"], plainKeys := false, apart := false, laid := [("stemma/sha.rounds", laid_stemma_sha_rounds), ("stemma/sha.begin", laid_stemma_sha_begin)] }
def DagNextsSaid : Prop := dagNextsRow.holds Tryz.pinned (OpenSpec.ofChange dagNextsSpec)

/-- ITS FALSE NEIGHBOUR: 'it returns false'. Refute it at one input. -/
def dagNextsWrong : ChangeSpec := { name := "dagNexts", fn := fun _ => fun
  | [d1, d2, d3] => { results := [.lit (.bool false)], args := [d1, d2, d3] }
  | _ => none }
def DagNextsWrongFalsely : Prop := dagNextsRow.holds Tryz.pinned (OpenSpec.ofChange dagNextsWrong)

/-- 'stemmalaw10.DagPlays': WHATEVER THE INPUT: true; the input reads as it did. -/
def dagPlaysSpec : ChangeSpec := { name := "dagPlays", fn := fun _ => fun
  | [d1, d2, d3] => { results := [.lit (.bool true)], args := [d1, d2, d3] }
  | _ => none }
def dagPlaysRow : OpenClaim := { program := "ytpcbnjbpdooejaagreatdoor", sum := "7426c9a35bbc991efbde2fc75dca90afd392ce5f18c27bcf50995f020b3c0bc5", func := "stemma/stemmalaw10.DagPlays", spec := "dagPlays", unfollowed := true, recurses := true, named := ["stemma/sha.begin", "stemma/sha.rounds"], plainKeys := false, apart := false, laid := [("stemma/sha.rounds", laid_stemma_sha_rounds), ("stemma/sha.begin", laid_stemma_sha_begin)] }
def DagPlaysSaid : Prop := dagPlaysRow.holds Tryz.pinned (OpenSpec.ofChange dagPlaysSpec)

/-- ITS FALSE NEIGHBOUR: 'it returns false'. Refute it at one input. -/
def dagPlaysWrong : ChangeSpec := { name := "dagPlays", fn := fun _ => fun
  | [d1, d2, d3] => { results := [.lit (.bool false)], args := [d1, d2, d3] }
  | _ => none }
def DagPlaysWrongFalsely : Prop := dagPlaysRow.holds Tryz.pinned (OpenSpec.ofChange dagPlaysWrong)

/-- 'stemmalaw10.DagPasts': WHATEVER THE INPUT: true; the input reads as it did. -/
def dagPastsSpec : ChangeSpec := { name := "dagPasts", fn := fun _ => fun
  | [d1, d2, d3] => { results := [.lit (.bool true)], args := [d1, d2, d3] }
  | _ => none }
def dagPastsRow : OpenClaim := { program := "ytpcbnjbpdooejaagreatdoor", sum := "7426c9a35bbc991efbde2fc75dca90afd392ce5f18c27bcf50995f020b3c0bc5", func := "stemma/stemmalaw10.DagPasts", spec := "dagPasts", unfollowed := true, recurses := true, named := ["stemma/sha.begin", "stemma/sha.rounds"], plainKeys := false, apart := false, laid := [("stemma/sha.rounds", laid_stemma_sha_rounds), ("stemma/sha.begin", laid_stemma_sha_begin)] }
def DagPastsSaid : Prop := dagPastsRow.holds Tryz.pinned (OpenSpec.ofChange dagPastsSpec)

/-- ITS FALSE NEIGHBOUR: 'it returns false'. Refute it at one input. -/
def dagPastsWrong : ChangeSpec := { name := "dagPasts", fn := fun _ => fun
  | [d1, d2, d3] => { results := [.lit (.bool false)], args := [d1, d2, d3] }
  | _ => none }
def DagPastsWrongFalsely : Prop := dagPastsRow.holds Tryz.pinned (OpenSpec.ofChange dagPastsWrong)

/-- 'stemmalaw10.DagAny': WHATEVER THE INPUT: true; the input reads as it did. -/
def dagAnySpec : ChangeSpec := { name := "dagAny", fn := fun _ => fun
  | [d1, d2] => { results := [.lit (.bool true)], args := [d1, d2] }
  | _ => none }
def dagAnyRow : OpenClaim := { program := "ytpcbnjbpdooejaagreatdoor", sum := "7426c9a35bbc991efbde2fc75dca90afd392ce5f18c27bcf50995f020b3c0bc5", func := "stemma/stemmalaw10.DagAny", spec := "dagAny", unfollowed := true, recurses := true, named := ["stemma/sha.begin", "stemma/sha.rounds"], plainKeys := false, apart := false, laid := [("stemma/sha.rounds", laid_stemma_sha_rounds), ("stemma/sha.begin", laid_stemma_sha_begin)] }
def DagAnySaid : Prop := dagAnyRow.holds Tryz.pinned (OpenSpec.ofChange dagAnySpec)

/-- ITS FALSE NEIGHBOUR: 'it returns false'. Refute it at one input. -/
def dagAnyWrong : ChangeSpec := { name := "dagAny", fn := fun _ => fun
  | [d1, d2] => { results := [.lit (.bool false)], args := [d1, d2] }
  | _ => none }
def DagAnyWrongFalsely : Prop := dagAnyRow.holds Tryz.pinned (OpenSpec.ofChange dagAnyWrong)

/-- 'stemmalaw10.DagForks': WHATEVER THE INPUT: true; the input reads as it did. -/
def dagForksSpec : ChangeSpec := { name := "dagForks", fn := fun _ => fun
  | [d1, d2, d3] => { results := [.lit (.bool true)], args := [d1, d2, d3] }
  | _ => none }
def dagForksRow : OpenClaim := { program := "ytpcbnjbpdooejaagreatdoor", sum := "7426c9a35bbc991efbde2fc75dca90afd392ce5f18c27bcf50995f020b3c0bc5", func := "stemma/stemmalaw10.DagForks", spec := "dagForks", inPlace := ["maps.clone"], unfollowed := true, recurses := true, named := ["stemma/sha.begin", "stemma/sha.rounds"], plainKeys := false, apart := false, laid := [("stemma/sha.rounds", laid_stemma_sha_rounds), ("stemma/sha.begin", laid_stemma_sha_begin)] }
def DagForksSaid : Prop := dagForksRow.holds Tryz.pinned (OpenSpec.ofChange dagForksSpec)

/-- ITS FALSE NEIGHBOUR: 'it returns false'. Refute it at one input. -/
def dagForksWrong : ChangeSpec := { name := "dagForks", fn := fun _ => fun
  | [d1, d2, d3] => { results := [.lit (.bool false)], args := [d1, d2, d3] }
  | _ => none }
def DagForksWrongFalsely : Prop := dagForksRow.holds Tryz.pinned (OpenSpec.ofChange dagForksWrong)

/-- 'stemmalaw10.DagClosed': WHATEVER THE INPUT: true; the input reads as it did. -/
def dagClosedSpec : ChangeSpec := { name := "dagClosed", fn := fun _ => fun
  | [d1, d2] => { results := [.lit (.bool true)], args := [d1, d2] }
  | _ => none }
def dagClosedRow : OpenClaim := { program := "ytpcbnjbpdooejaagreatdoor", sum := "7426c9a35bbc991efbde2fc75dca90afd392ce5f18c27bcf50995f020b3c0bc5", func := "stemma/stemmalaw10.DagClosed", spec := "dagClosed", unfollowed := true, recurses := true, named := ["stemma/sha.begin", "stemma/sha.rounds"], plainKeys := false, apart := false, laid := [("stemma/sha.rounds", laid_stemma_sha_rounds), ("stemma/sha.begin", laid_stemma_sha_begin)] }
def DagClosedSaid : Prop := dagClosedRow.holds Tryz.pinned (OpenSpec.ofChange dagClosedSpec)

/-- ITS FALSE NEIGHBOUR: 'it returns false'. Refute it at one input. -/
def dagClosedWrong : ChangeSpec := { name := "dagClosed", fn := fun _ => fun
  | [d1, d2] => { results := [.lit (.bool false)], args := [d1, d2] }
  | _ => none }
def DagClosedWrongFalsely : Prop := dagClosedRow.holds Tryz.pinned (OpenSpec.ofChange dagClosedWrong)

/-- 'stemmalaw10.DagOrders': WHATEVER THE INPUT: true; the input reads as it did. -/
def dagOrdersSpec : ChangeSpec := { name := "dagOrders", fn := fun _ => fun
  | [d1, d2] => { results := [.lit (.bool true)], args := [d1, d2] }
  | _ => none }
def dagOrdersRow : OpenClaim := { program := "ytpcbnjbpdooejaagreatdoor", sum := "7426c9a35bbc991efbde2fc75dca90afd392ce5f18c27bcf50995f020b3c0bc5", func := "stemma/stemmalaw10.DagOrders", spec := "dagOrders", unfollowed := true, recurses := true, named := ["stemma/sha.begin", "stemma/sha.rounds"], plainKeys := false, apart := false, laid := [("stemma/sha.rounds", laid_stemma_sha_rounds), ("stemma/sha.begin", laid_stemma_sha_begin)] }
def DagOrdersSaid : Prop := dagOrdersRow.holds Tryz.pinned (OpenSpec.ofChange dagOrdersSpec)

/-- ITS FALSE NEIGHBOUR: 'it returns false'. Refute it at one input. -/
def dagOrdersWrong : ChangeSpec := { name := "dagOrders", fn := fun _ => fun
  | [d1, d2] => { results := [.lit (.bool false)], args := [d1, d2] }
  | _ => none }
def DagOrdersWrongFalsely : Prop := dagOrdersRow.holds Tryz.pinned (OpenSpec.ofChange dagOrdersWrong)

/-- 'stemmalaw22.PeerNobody': WHATEVER THE INPUT: true; the input reads as it did. -/
def peerNobodySpec : ChangeSpec := { name := "peerNobody", fn := fun _ => fun
  | [d1, d2] => { results := [.lit (.bool true)], args := [d1, d2] }
  | _ => none }
def peerNobodyRow : OpenClaim := { program := "ytpcbnjbpdooejaagreatdoor", sum := "7426c9a35bbc991efbde2fc75dca90afd392ce5f18c27bcf50995f020b3c0bc5", func := "stemma/stemmalaw22.PeerNobody", spec := "peerNobody", unfollowed := true, recurses := true, named := ["stemma/sha.begin", "stemma/sha.rounds"], plainKeys := false, apart := false, laid := [("stemma/sha.rounds", laid_stemma_sha_rounds), ("stemma/sha.begin", laid_stemma_sha_begin)] }
def PeerNobodySaid : Prop := peerNobodyRow.holds Tryz.pinned (OpenSpec.ofChange peerNobodySpec)

/-- ITS FALSE NEIGHBOUR: 'it returns false'. Refute it at one input. -/
def peerNobodyWrong : ChangeSpec := { name := "peerNobody", fn := fun _ => fun
  | [d1, d2] => { results := [.lit (.bool false)], args := [d1, d2] }
  | _ => none }
def PeerNobodyWrongFalsely : Prop := peerNobodyRow.holds Tryz.pinned (OpenSpec.ofChange peerNobodyWrong)

/-- 'stemmalaw22.PeerEven': WHATEVER THE INPUT: true; the input reads as it did. -/
def peerEvenSpec : ChangeSpec := { name := "peerEven", fn := fun _ => fun
  | [d1, d2, d3] => { results := [.lit (.bool true)], args := [d1, d2, d3] }
  | _ => none }
def peerEvenRow : OpenClaim := { program := "ytpcbnjbpdooejaagreatdoor", sum := "7426c9a35bbc991efbde2fc75dca90afd392ce5f18c27bcf50995f020b3c0bc5", func := "stemma/stemmalaw22.PeerEven", spec := "peerEven", unfollowed := true, recurses := true, named := ["stemma/sha.begin", "stemma/sha.rounds"], plainKeys := false, apart := false, laid := [("stemma/sha.rounds", laid_stemma_sha_rounds), ("stemma/sha.begin", laid_stemma_sha_begin)] }
def PeerEvenSaid : Prop := peerEvenRow.holds Tryz.pinned (OpenSpec.ofChange peerEvenSpec)

/-- ITS FALSE NEIGHBOUR: 'it returns false'. Refute it at one input. -/
def peerEvenWrong : ChangeSpec := { name := "peerEven", fn := fun _ => fun
  | [d1, d2, d3] => { results := [.lit (.bool false)], args := [d1, d2, d3] }
  | _ => none }
def PeerEvenWrongFalsely : Prop := peerEvenRow.holds Tryz.pinned (OpenSpec.ofChange peerEvenWrong)

/-- 'stemmalaw22.PeerSyncs': WHATEVER THE INPUT: true; the input reads as it did. -/
def peerSyncsSpec : ChangeSpec := { name := "peerSyncs", fn := fun _ => fun
  | [d1, d2, d3] => { results := [.lit (.bool true)], args := [d1, d2, d3] }
  | _ => none }
def peerSyncsRow : OpenClaim := { program := "ytpcbnjbpdooejaagreatdoor", sum := "7426c9a35bbc991efbde2fc75dca90afd392ce5f18c27bcf50995f020b3c0bc5", func := "stemma/stemmalaw22.PeerSyncs", spec := "peerSyncs", unfollowed := true, recurses := true, named := ["stemma/sha.begin", "stemma/sha.rounds"], plainKeys := false, apart := false, laid := [("stemma/sha.rounds", laid_stemma_sha_rounds), ("stemma/sha.begin", laid_stemma_sha_begin)] }
def PeerSyncsSaid : Prop := peerSyncsRow.holds Tryz.pinned (OpenSpec.ofChange peerSyncsSpec)

/-- ITS FALSE NEIGHBOUR: 'it returns false'. Refute it at one input. -/
def peerSyncsWrong : ChangeSpec := { name := "peerSyncs", fn := fun _ => fun
  | [d1, d2, d3] => { results := [.lit (.bool false)], args := [d1, d2, d3] }
  | _ => none }
def PeerSyncsWrongFalsely : Prop := peerSyncsRow.holds Tryz.pinned (OpenSpec.ofChange peerSyncsWrong)

/-- 'stemmalaw22.PeerPlays': WHATEVER THE INPUT: true; the input reads as it did. -/
def peerPlaysSpec : ChangeSpec := { name := "peerPlays", fn := fun _ => fun
  | [d1, d2, d3] => { results := [.lit (.bool true)], args := [d1, d2, d3] }
  | _ => none }
def peerPlaysRow : OpenClaim := { program := "ytpcbnjbpdooejaagreatdoor", sum := "7426c9a35bbc991efbde2fc75dca90afd392ce5f18c27bcf50995f020b3c0bc5", func := "stemma/stemmalaw22.PeerPlays", spec := "peerPlays", unfollowed := true, recurses := true, named := ["stemma/sha.begin", "stemma/sha.rounds"], plainKeys := false, apart := false, laid := [("stemma/sha.rounds", laid_stemma_sha_rounds), ("stemma/sha.begin", laid_stemma_sha_begin)] }
def PeerPlaysSaid : Prop := peerPlaysRow.holds Tryz.pinned (OpenSpec.ofChange peerPlaysSpec)

/-- ITS FALSE NEIGHBOUR: 'it returns false'. Refute it at one input. -/
def peerPlaysWrong : ChangeSpec := { name := "peerPlays", fn := fun _ => fun
  | [d1, d2, d3] => { results := [.lit (.bool false)], args := [d1, d2, d3] }
  | _ => none }
def PeerPlaysWrongFalsely : Prop := peerPlaysRow.holds Tryz.pinned (OpenSpec.ofChange peerPlaysWrong)

/-- 'stemmalaw22.PeerGrows': WHATEVER THE INPUT: true; the input reads as it did. -/
def peerGrowsSpec : ChangeSpec := { name := "peerGrows", fn := fun _ => fun
  | [d1, d2, d3] => { results := [.lit (.bool true)], args := [d1, d2, d3] }
  | _ => none }
def peerGrowsRow : OpenClaim := { program := "ytpcbnjbpdooejaagreatdoor", sum := "7426c9a35bbc991efbde2fc75dca90afd392ce5f18c27bcf50995f020b3c0bc5", func := "stemma/stemmalaw22.PeerGrows", spec := "peerGrows", unfollowed := true, recurses := true, named := ["stemma/sha.begin", "stemma/sha.rounds"], plainKeys := false, apart := false, laid := [("stemma/sha.rounds", laid_stemma_sha_rounds), ("stemma/sha.begin", laid_stemma_sha_begin)] }
def PeerGrowsSaid : Prop := peerGrowsRow.holds Tryz.pinned (OpenSpec.ofChange peerGrowsSpec)

/-- ITS FALSE NEIGHBOUR: 'it returns false'. Refute it at one input. -/
def peerGrowsWrong : ChangeSpec := { name := "peerGrows", fn := fun _ => fun
  | [d1, d2, d3] => { results := [.lit (.bool false)], args := [d1, d2, d3] }
  | _ => none }
def PeerGrowsWrongFalsely : Prop := peerGrowsRow.holds Tryz.pinned (OpenSpec.ofChange peerGrowsWrong)

/- THE SECOND FORM. 'bulk': how many values and letters a reading holds, each counted each time it is reached (what is shared counts as often as it is met; a slice's spare places count too). A statement '..UptoSaid' is the law's where the arguments, and the package variables that the reading takes, are together of bulk at most 1048576: NARROWER than '..Said'. Prove '..Said' where nothing that the law and all that it calls make is longer than what came in: it says more and counts as full. Else prove '..UptoSaid'. A law counts once. -/
mutual
def uptoBulk {H : Type} : DataW H → Nat
  | .lit (.string bytes) => bytes.length + 1
  | .lit _ => 1
  | .nil => 1
  | .ptr d => uptoBulk d + 1
  | .slice elems spare => uptoBulkAll elems + uptoBulkAll spare + 1
  | .agg parts => uptoBulkAll parts + 1
  | .iface _ d => uptoBulk d + 1
  | .map entries => uptoBulkEntries entries + 1
  | .held _ => 1
def uptoBulkAll {H : Type} : List (DataW H) → Nat
  | [] => 0
  | d :: r => uptoBulk d + uptoBulkAll r
def uptoBulkEntries {H : Type} : List (Lit × DataW H) → Nat
  | [] => 0
  | x :: r => uptoBulkEntry x + uptoBulkEntries r
def uptoBulkEntry {H : Type} : Lit × DataW H → Nat
  | (.string bytes, d) => bytes.length + uptoBulk d + 1
  | (_, d) => uptoBulk d + 1
 end
def uptoSmall : (H : Type) → List (DataW H) → Bool := fun _ ds => decide (uptoBulkAll ds ≤ 1048576)
def OpenSpec.upto (s : _root_.Go.ChangeSpec) : _root_.Go.OpenSpec := { _root_.Go.OpenSpec.ofChange s with cond := some uptoSmall }

/-- 'stemmalaw10.DagJoins', WHERE WHAT IT READS IS OF BULK AT MOST 1048576: true; the input reads as it did. -/
def dagJoinsUptoRow : OpenClaim := { program := "ytpcbnjbpdooejaagreatdoor", sum := "7426c9a35bbc991efbde2fc75dca90afd392ce5f18c27bcf50995f020b3c0bc5", func := "stemma/stemmalaw10.DagJoins", spec := "dagJoins", unfollowed := true, recurses := true, named := ["stemma/sha.begin", "stemma/sha.rounds"], plainKeys := false, apart := false, laid := [("stemma/sha.rounds", laid_stemma_sha_rounds), ("stemma/sha.begin", laid_stemma_sha_begin)], narrowed := true }
def DagJoinsUptoSaid : Prop := dagJoinsUptoRow.holds Tryz.pinned (OpenSpec.upto dagJoinsSpec)

/-- 'stemmalaw10.DagNexts', WHERE WHAT IT READS IS OF BULK AT MOST 1048576: true; the input reads as it did. -/
def dagNextsUptoRow : OpenClaim := { program := "ytpcbnjbpdooejaagreatdoor", sum := "7426c9a35bbc991efbde2fc75dca90afd392ce5f18c27bcf50995f020b3c0bc5", func := "stemma/stemmalaw10.DagNexts", spec := "dagNexts", unfollowed := true, recurses := true, named := ["stemma/sha.begin", "stemma/sha.rounds"], plainKeys := false, apart := false, laid := [("stemma/sha.rounds", laid_stemma_sha_rounds), ("stemma/sha.begin", laid_stemma_sha_begin)], narrowed := true }
def DagNextsUptoSaid : Prop := dagNextsUptoRow.holds Tryz.pinned (OpenSpec.upto dagNextsSpec)

/-- 'stemmalaw10.DagPlays', WHERE WHAT IT READS IS OF BULK AT MOST 1048576: true; the input reads as it did. -/
def dagPlaysUptoRow : OpenClaim := { program := "ytpcbnjbpdooejaagreatdoor", sum := "7426c9a35bbc991efbde2fc75dca90afd392ce5f18c27bcf50995f020b3c0bc5", func := "stemma/stemmalaw10.DagPlays", spec := "dagPlays", unfollowed := true, recurses := true, named := ["stemma/sha.begin", "stemma/sha.rounds"], plainKeys := false, apart := false, laid := [("stemma/sha.rounds", laid_stemma_sha_rounds), ("stemma/sha.begin", laid_stemma_sha_begin)], narrowed := true }
def DagPlaysUptoSaid : Prop := dagPlaysUptoRow.holds Tryz.pinned (OpenSpec.upto dagPlaysSpec)

/-- 'stemmalaw10.DagPasts', WHERE WHAT IT READS IS OF BULK AT MOST 1048576: true; the input reads as it did. -/
def dagPastsUptoRow : OpenClaim := { program := "ytpcbnjbpdooejaagreatdoor", sum := "7426c9a35bbc991efbde2fc75dca90afd392ce5f18c27bcf50995f020b3c0bc5", func := "stemma/stemmalaw10.DagPasts", spec := "dagPasts", unfollowed := true, recurses := true, named := ["stemma/sha.begin", "stemma/sha.rounds"], plainKeys := false, apart := false, laid := [("stemma/sha.rounds", laid_stemma_sha_rounds), ("stemma/sha.begin", laid_stemma_sha_begin)], narrowed := true }
def DagPastsUptoSaid : Prop := dagPastsUptoRow.holds Tryz.pinned (OpenSpec.upto dagPastsSpec)

/-- 'stemmalaw10.DagAny', WHERE WHAT IT READS IS OF BULK AT MOST 1048576: true; the input reads as it did. -/
def dagAnyUptoRow : OpenClaim := { program := "ytpcbnjbpdooejaagreatdoor", sum := "7426c9a35bbc991efbde2fc75dca90afd392ce5f18c27bcf50995f020b3c0bc5", func := "stemma/stemmalaw10.DagAny", spec := "dagAny", unfollowed := true, recurses := true, named := ["stemma/sha.begin", "stemma/sha.rounds"], plainKeys := false, apart := false, laid := [("stemma/sha.rounds", laid_stemma_sha_rounds), ("stemma/sha.begin", laid_stemma_sha_begin)], narrowed := true }
def DagAnyUptoSaid : Prop := dagAnyUptoRow.holds Tryz.pinned (OpenSpec.upto dagAnySpec)

/-- 'stemmalaw10.DagForks', WHERE WHAT IT READS IS OF BULK AT MOST 1048576: true; the input reads as it did. -/
def dagForksUptoRow : OpenClaim := { program := "ytpcbnjbpdooejaagreatdoor", sum := "7426c9a35bbc991efbde2fc75dca90afd392ce5f18c27bcf50995f020b3c0bc5", func := "stemma/stemmalaw10.DagForks", spec := "dagForks", inPlace := ["maps.clone"], unfollowed := true, recurses := true, named := ["stemma/sha.begin", "stemma/sha.rounds"], plainKeys := false, apart := false, laid := [("stemma/sha.rounds", laid_stemma_sha_rounds), ("stemma/sha.begin", laid_stemma_sha_begin)], narrowed := true }
def DagForksUptoSaid : Prop := dagForksUptoRow.holds Tryz.pinned (OpenSpec.upto dagForksSpec)

/-- 'stemmalaw10.DagClosed', WHERE WHAT IT READS IS OF BULK AT MOST 1048576: true; the input reads as it did. -/
def dagClosedUptoRow : OpenClaim := { program := "ytpcbnjbpdooejaagreatdoor", sum := "7426c9a35bbc991efbde2fc75dca90afd392ce5f18c27bcf50995f020b3c0bc5", func := "stemma/stemmalaw10.DagClosed", spec := "dagClosed", unfollowed := true, recurses := true, named := ["stemma/sha.begin", "stemma/sha.rounds"], plainKeys := false, apart := false, laid := [("stemma/sha.rounds", laid_stemma_sha_rounds), ("stemma/sha.begin", laid_stemma_sha_begin)], narrowed := true }
def DagClosedUptoSaid : Prop := dagClosedUptoRow.holds Tryz.pinned (OpenSpec.upto dagClosedSpec)

/-- 'stemmalaw10.DagOrders', WHERE WHAT IT READS IS OF BULK AT MOST 1048576: true; the input reads as it did. -/
def dagOrdersUptoRow : OpenClaim := { program := "ytpcbnjbpdooejaagreatdoor", sum := "7426c9a35bbc991efbde2fc75dca90afd392ce5f18c27bcf50995f020b3c0bc5", func := "stemma/stemmalaw10.DagOrders", spec := "dagOrders", unfollowed := true, recurses := true, named := ["stemma/sha.begin", "stemma/sha.rounds"], plainKeys := false, apart := false, laid := [("stemma/sha.rounds", laid_stemma_sha_rounds), ("stemma/sha.begin", laid_stemma_sha_begin)], narrowed := true }
def DagOrdersUptoSaid : Prop := dagOrdersUptoRow.holds Tryz.pinned (OpenSpec.upto dagOrdersSpec)

/-- 'stemmalaw22.PeerNobody', WHERE WHAT IT READS IS OF BULK AT MOST 1048576: true; the input reads as it did. -/
def peerNobodyUptoRow : OpenClaim := { program := "ytpcbnjbpdooejaagreatdoor", sum := "7426c9a35bbc991efbde2fc75dca90afd392ce5f18c27bcf50995f020b3c0bc5", func := "stemma/stemmalaw22.PeerNobody", spec := "peerNobody", unfollowed := true, recurses := true, named := ["stemma/sha.begin", "stemma/sha.rounds"], plainKeys := false, apart := false, laid := [("stemma/sha.rounds", laid_stemma_sha_rounds), ("stemma/sha.begin", laid_stemma_sha_begin)], narrowed := true }
def PeerNobodyUptoSaid : Prop := peerNobodyUptoRow.holds Tryz.pinned (OpenSpec.upto peerNobodySpec)

/-- 'stemmalaw22.PeerEven', WHERE WHAT IT READS IS OF BULK AT MOST 1048576: true; the input reads as it did. -/
def peerEvenUptoRow : OpenClaim := { program := "ytpcbnjbpdooejaagreatdoor", sum := "7426c9a35bbc991efbde2fc75dca90afd392ce5f18c27bcf50995f020b3c0bc5", func := "stemma/stemmalaw22.PeerEven", spec := "peerEven", unfollowed := true, recurses := true, named := ["stemma/sha.begin", "stemma/sha.rounds"], plainKeys := false, apart := false, laid := [("stemma/sha.rounds", laid_stemma_sha_rounds), ("stemma/sha.begin", laid_stemma_sha_begin)], narrowed := true }
def PeerEvenUptoSaid : Prop := peerEvenUptoRow.holds Tryz.pinned (OpenSpec.upto peerEvenSpec)

/-- 'stemmalaw22.PeerSyncs', WHERE WHAT IT READS IS OF BULK AT MOST 1048576: true; the input reads as it did. -/
def peerSyncsUptoRow : OpenClaim := { program := "ytpcbnjbpdooejaagreatdoor", sum := "7426c9a35bbc991efbde2fc75dca90afd392ce5f18c27bcf50995f020b3c0bc5", func := "stemma/stemmalaw22.PeerSyncs", spec := "peerSyncs", unfollowed := true, recurses := true, named := ["stemma/sha.begin", "stemma/sha.rounds"], plainKeys := false, apart := false, laid := [("stemma/sha.rounds", laid_stemma_sha_rounds), ("stemma/sha.begin", laid_stemma_sha_begin)], narrowed := true }
def PeerSyncsUptoSaid : Prop := peerSyncsUptoRow.holds Tryz.pinned (OpenSpec.upto peerSyncsSpec)

/-- 'stemmalaw22.PeerPlays', WHERE WHAT IT READS IS OF BULK AT MOST 1048576: true; the input reads as it did. -/
def peerPlaysUptoRow : OpenClaim := { program := "ytpcbnjbpdooejaagreatdoor", sum := "7426c9a35bbc991efbde2fc75dca90afd392ce5f18c27bcf50995f020b3c0bc5", func := "stemma/stemmalaw22.PeerPlays", spec := "peerPlays", unfollowed := true, recurses := true, named := ["stemma/sha.begin", "stemma/sha.rounds"], plainKeys := false, apart := false, laid := [("stemma/sha.rounds", laid_stemma_sha_rounds), ("stemma/sha.begin", laid_stemma_sha_begin)], narrowed := true }
def PeerPlaysUptoSaid : Prop := peerPlaysUptoRow.holds Tryz.pinned (OpenSpec.upto peerPlaysSpec)

/-- 'stemmalaw22.PeerGrows', WHERE WHAT IT READS IS OF BULK AT MOST 1048576: true; the input reads as it did. -/
def peerGrowsUptoRow : OpenClaim := { program := "ytpcbnjbpdooejaagreatdoor", sum := "7426c9a35bbc991efbde2fc75dca90afd392ce5f18c27bcf50995f020b3c0bc5", func := "stemma/stemmalaw22.PeerGrows", spec := "peerGrows", unfollowed := true, recurses := true, named := ["stemma/sha.begin", "stemma/sha.rounds"], plainKeys := false, apart := false, laid := [("stemma/sha.rounds", laid_stemma_sha_rounds), ("stemma/sha.begin", laid_stemma_sha_begin)], narrowed := true }
def PeerGrowsUptoSaid : Prop := peerGrowsUptoRow.holds Tryz.pinned (OpenSpec.upto peerGrowsSpec)

end Rows
end Go.Proofs.YtpcbnjbpdooejaaGreatDoor
