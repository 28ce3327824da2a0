/-
  NARROWER THAN 'FOR EVERY INPUT', by the rows' own cells (each row's printed sentence says how): InventoryRanges: laid · InventoryUnion: laid · InventoryNormal: laid · InventoryVerifies: laid · InventoryMerges: laid · InventoryRoots: laid · InventoryRecordBack: laid · InventoryRecords: laid · InventoryProofs: laid · InventoryQuiet: laid · InventoryMemory: laid.
  DERIVED. THE GIVEN ROWS OF THIS SEAT. 11 by the template 'for every input the law returns true; each argument reads behind the call as it read before'; 0 by the template 'total and deterministic' (their statements: YtdnahgfgoajmcaaDoorTotals.lean).
  GIVEN WITH THE SEED: the statements are not yours to turn. If you find one false, say at which input.
  Laid BY PROGRAM, IN A SANDBOX (cutbox-rows.mjs): the forced cells as the released guide's own fill.sh prints them over the translation 7be02912f4c0eed4… (all of the seat's roots in one cut). By AI agents, Wed Nov 11 2026. No macro, syntax, notation, axiom, sorry.
-/
import Derived.Test.YtdnahgfgoajmcaaDoorChecked
import GoSem.Claim
import GoSem.ClaimJoined
import GoSem.ClaimMapViews
import Derived.JoinedTies
import Derived.KernelRfl
namespace Go.Proofs.YtdnahgfgoajmcaaDoor
/- THE CELL 'sum', in the pinned program and in every row, IS THE sha256 OF THE DUMP (.gsa) THAT YtdnahgfgoajmcaaDoorProg.lean LOADS. Nothing in Lean hashes anything: it is a label: what it is worth is what the hold of that sum in a sandbox is worth. -/
noncomputable def Tryd.pinned : Pinned := { name := "ytdnahgfgoajmcaadoor", sum := "7be02912f4c0eed41d716fd55d4621d3fc5f4c6e24b59fdfc9c767c25e68c6bd", checked := Tryd.checked }
namespace Rows
def none {H : Type} : Left H := { results := [], args := [] }

/- WHAT THE LISTED PACKAGE-LEVEL VARIABLES READ AS WHEN THE CALL BEGINS. Each datum BY PROGRAM (the guide's laid-datum.mjs) off the statement by which the dump's own 'gosem.cut.vars' lays the variable. In a bare row this is a premise. The card (YtdnahgfgoajmcaaDoorCards.lean) ties it to the program's text. -/
def laid_stolon_stolonref02_rounds {H : Type} : DataW H := .agg [.lit (.int .u32 1116352408), .lit (.int .u32 1899447441), .lit (.int .u32 3049323471), .lit (.int .u32 3921009573), .lit (.int .u32 961987163), .lit (.int .u32 1508970993), .lit (.int .u32 2453635748), .lit (.int .u32 2870763221), .lit (.int .u32 3624381080), .lit (.int .u32 310598401), .lit (.int .u32 607225278), .lit (.int .u32 1426881987), .lit (.int .u32 1925078388), .lit (.int .u32 2162078206), .lit (.int .u32 2614888103), .lit (.int .u32 3248222580), .lit (.int .u32 3835390401), .lit (.int .u32 4022224774), .lit (.int .u32 264347078), .lit (.int .u32 604807628), .lit (.int .u32 770255983), .lit (.int .u32 1249150122), .lit (.int .u32 1555081692), .lit (.int .u32 1996064986), .lit (.int .u32 2554220882), .lit (.int .u32 2821834349), .lit (.int .u32 2952996808), .lit (.int .u32 3210313671), .lit (.int .u32 3336571891), .lit (.int .u32 3584528711), .lit (.int .u32 113926993), .lit (.int .u32 338241895), .lit (.int .u32 666307205), .lit (.int .u32 773529912), .lit (.int .u32 1294757372), .lit (.int .u32 1396182291), .lit (.int .u32 1695183700), .lit (.int .u32 1986661051), .lit (.int .u32 2177026350), .lit (.int .u32 2456956037), .lit (.int .u32 2730485921), .lit (.int .u32 2820302411), .lit (.int .u32 3259730800), .lit (.int .u32 3345764771), .lit (.int .u32 3516065817), .lit (.int .u32 3600352804), .lit (.int .u32 4094571909), .lit (.int .u32 275423344), .lit (.int .u32 430227734), .lit (.int .u32 506948616), .lit (.int .u32 659060556), .lit (.int .u32 883997877), .lit (.int .u32 958139571), .lit (.int .u32 1322822218), .lit (.int .u32 1537002063), .lit (.int .u32 1747873779), .lit (.int .u32 1955562222), .lit (.int .u32 2024104815), .lit (.int .u32 2227730452), .lit (.int .u32 2361852424), .lit (.int .u32 2428436474), .lit (.int .u32 2756734187), .lit (.int .u32 3204031479), .lit (.int .u32 3329325298)]
def laid_stolon_digest_rounds {H : Type} : DataW H := .agg [.lit (.int .u32 1116352408), .lit (.int .u32 1899447441), .lit (.int .u32 3049323471), .lit (.int .u32 3921009573), .lit (.int .u32 961987163), .lit (.int .u32 1508970993), .lit (.int .u32 2453635748), .lit (.int .u32 2870763221), .lit (.int .u32 3624381080), .lit (.int .u32 310598401), .lit (.int .u32 607225278), .lit (.int .u32 1426881987), .lit (.int .u32 1925078388), .lit (.int .u32 2162078206), .lit (.int .u32 2614888103), .lit (.int .u32 3248222580), .lit (.int .u32 3835390401), .lit (.int .u32 4022224774), .lit (.int .u32 264347078), .lit (.int .u32 604807628), .lit (.int .u32 770255983), .lit (.int .u32 1249150122), .lit (.int .u32 1555081692), .lit (.int .u32 1996064986), .lit (.int .u32 2554220882), .lit (.int .u32 2821834349), .lit (.int .u32 2952996808), .lit (.int .u32 3210313671), .lit (.int .u32 3336571891), .lit (.int .u32 3584528711), .lit (.int .u32 113926993), .lit (.int .u32 338241895), .lit (.int .u32 666307205), .lit (.int .u32 773529912), .lit (.int .u32 1294757372), .lit (.int .u32 1396182291), .lit (.int .u32 1695183700), .lit (.int .u32 1986661051), .lit (.int .u32 2177026350), .lit (.int .u32 2456956037), .lit (.int .u32 2730485921), .lit (.int .u32 2820302411), .lit (.int .u32 3259730800), .lit (.int .u32 3345764771), .lit (.int .u32 3516065817), .lit (.int .u32 3600352804), .lit (.int .u32 4094571909), .lit (.int .u32 275423344), .lit (.int .u32 430227734), .lit (.int .u32 506948616), .lit (.int .u32 659060556), .lit (.int .u32 883997877), .lit (.int .u32 958139571), .lit (.int .u32 1322822218), .lit (.int .u32 1537002063), .lit (.int .u32 1747873779), .lit (.int .u32 1955562222), .lit (.int .u32 2024104815), .lit (.int .u32 2227730452), .lit (.int .u32 2361852424), .lit (.int .u32 2428436474), .lit (.int .u32 2756734187), .lit (.int .u32 3204031479), .lit (.int .u32 3329325298)]
def laid_stolon_stolonref06_zero {H : Type} : DataW H := .agg [.lit (.int .u8 0), .lit (.int .u8 0), .lit (.int .u8 0), .lit (.int .u8 0), .lit (.int .u8 0), .lit (.int .u8 0), .lit (.int .u8 0), .lit (.int .u8 0), .lit (.int .u8 0), .lit (.int .u8 0), .lit (.int .u8 0), .lit (.int .u8 0), .lit (.int .u8 0), .lit (.int .u8 0), .lit (.int .u8 0), .lit (.int .u8 0), .lit (.int .u8 0), .lit (.int .u8 0), .lit (.int .u8 0), .lit (.int .u8 0), .lit (.int .u8 0), .lit (.int .u8 0), .lit (.int .u8 0), .lit (.int .u8 0), .lit (.int .u8 0), .lit (.int .u8 0), .lit (.int .u8 0), .lit (.int .u8 0), .lit (.int .u8 0), .lit (.int .u8 0), .lit (.int .u8 0), .lit (.int .u8 0)]

/-- 'stolonlaw06.InventoryRanges': WHATEVER THE INPUT: true; the input reads as it did. -/
def inventoryRangesSpec : ChangeSpec := { name := "inventoryRanges", fn := fun _ => fun
  | [d1, d2, d3] => { results := [.lit (.bool true)], args := [d1, d2, d3] }
  | _ => none }
def inventoryRangesRow : OpenClaim := { program := "ytdnahgfgoajmcaadoor", sum := "7be02912f4c0eed41d716fd55d4621d3fc5f4c6e24b59fdfc9c767c25e68c6bd", func := "stolon/stolonlaw06.InventoryRanges", spec := "inventoryRanges", inPlace := ["internal/bytealg.Compare"], unfollowed := true, recurses := true, named := ["stolon/digest.rounds", "stolon/stolonref06.zero", "stolon/stolonref02.rounds"], plainKeys := false, apart := false, laid := [("stolon/stolonref02.rounds", laid_stolon_stolonref02_rounds), ("stolon/digest.rounds", laid_stolon_digest_rounds), ("stolon/stolonref06.zero", laid_stolon_stolonref06_zero)] }
def InventoryRangesSaid : Prop := inventoryRangesRow.holds Tryd.pinned (OpenSpec.ofChange inventoryRangesSpec)

/-- ITS FALSE NEIGHBOUR: 'it returns false'. Refute it at one input. -/
def inventoryRangesWrong : ChangeSpec := { name := "inventoryRanges", fn := fun _ => fun
  | [d1, d2, d3] => { results := [.lit (.bool false)], args := [d1, d2, d3] }
  | _ => none }
def InventoryRangesWrongFalsely : Prop := inventoryRangesRow.holds Tryd.pinned (OpenSpec.ofChange inventoryRangesWrong)

/-- 'stolonlaw06.InventoryUnion': WHATEVER THE INPUT: true; the input reads as it did. -/
def inventoryUnionSpec : ChangeSpec := { name := "inventoryUnion", fn := fun _ => fun
  | [d1, d2] => { results := [.lit (.bool true)], args := [d1, d2] }
  | _ => none }
def inventoryUnionRow : OpenClaim := { program := "ytdnahgfgoajmcaadoor", sum := "7be02912f4c0eed41d716fd55d4621d3fc5f4c6e24b59fdfc9c767c25e68c6bd", func := "stolon/stolonlaw06.InventoryUnion", spec := "inventoryUnion", inPlace := ["internal/bytealg.Compare"], unfollowed := true, recurses := true, named := ["stolon/digest.rounds"], plainKeys := false, apart := false, laid := [("stolon/digest.rounds", laid_stolon_digest_rounds)] }
def InventoryUnionSaid : Prop := inventoryUnionRow.holds Tryd.pinned (OpenSpec.ofChange inventoryUnionSpec)

/-- ITS FALSE NEIGHBOUR: 'it returns false'. Refute it at one input. -/
def inventoryUnionWrong : ChangeSpec := { name := "inventoryUnion", fn := fun _ => fun
  | [d1, d2] => { results := [.lit (.bool false)], args := [d1, d2] }
  | _ => none }
def InventoryUnionWrongFalsely : Prop := inventoryUnionRow.holds Tryd.pinned (OpenSpec.ofChange inventoryUnionWrong)

/-- 'stolonlaw06.InventoryNormal': WHATEVER THE INPUT: true; the input reads as it did. -/
def inventoryNormalSpec : ChangeSpec := { name := "inventoryNormal", fn := fun _ => fun
  | [d] => { results := [.lit (.bool true)], args := [d] }
  | _ => none }
def inventoryNormalRow : OpenClaim := { program := "ytdnahgfgoajmcaadoor", sum := "7be02912f4c0eed41d716fd55d4621d3fc5f4c6e24b59fdfc9c767c25e68c6bd", func := "stolon/stolonlaw06.InventoryNormal", spec := "inventoryNormal", inPlace := ["internal/bytealg.Compare"], unfollowed := true, recurses := true, named := ["stolon/digest.rounds"], plainKeys := false, apart := false, laid := [("stolon/digest.rounds", laid_stolon_digest_rounds)] }
def InventoryNormalSaid : Prop := inventoryNormalRow.holds Tryd.pinned (OpenSpec.ofChange inventoryNormalSpec)

/-- ITS FALSE NEIGHBOUR: 'it returns false'. Refute it at one input. -/
def inventoryNormalWrong : ChangeSpec := { name := "inventoryNormal", fn := fun _ => fun
  | [d] => { results := [.lit (.bool false)], args := [d] }
  | _ => none }
def InventoryNormalWrongFalsely : Prop := inventoryNormalRow.holds Tryd.pinned (OpenSpec.ofChange inventoryNormalWrong)

/-- 'stolonlaw06.InventoryVerifies': WHATEVER THE INPUT: true; the input reads as it did. -/
def inventoryVerifiesSpec : ChangeSpec := { name := "inventoryVerifies", fn := fun _ => fun
  | [d] => { results := [.lit (.bool true)], args := [d] }
  | _ => none }
def inventoryVerifiesRow : OpenClaim := { program := "ytdnahgfgoajmcaadoor", sum := "7be02912f4c0eed41d716fd55d4621d3fc5f4c6e24b59fdfc9c767c25e68c6bd", func := "stolon/stolonlaw06.InventoryVerifies", spec := "inventoryVerifies", inPlace := ["internal/bytealg.Compare"], unfollowed := true, recurses := true, named := ["stolon/digest.rounds", "stolon/stolonref06.zero", "stolon/stolonref02.rounds"], plainKeys := false, apart := false, laid := [("stolon/stolonref02.rounds", laid_stolon_stolonref02_rounds), ("stolon/digest.rounds", laid_stolon_digest_rounds), ("stolon/stolonref06.zero", laid_stolon_stolonref06_zero)] }
def InventoryVerifiesSaid : Prop := inventoryVerifiesRow.holds Tryd.pinned (OpenSpec.ofChange inventoryVerifiesSpec)

/-- ITS FALSE NEIGHBOUR: 'it returns false'. Refute it at one input. -/
def inventoryVerifiesWrong : ChangeSpec := { name := "inventoryVerifies", fn := fun _ => fun
  | [d] => { results := [.lit (.bool false)], args := [d] }
  | _ => none }
def InventoryVerifiesWrongFalsely : Prop := inventoryVerifiesRow.holds Tryd.pinned (OpenSpec.ofChange inventoryVerifiesWrong)

/-- 'stolonlaw06.InventoryMerges': WHATEVER THE INPUT: true; the input reads as it did. -/
def inventoryMergesSpec : ChangeSpec := { name := "inventoryMerges", fn := fun _ => fun
  | [d] => { results := [.lit (.bool true)], args := [d] }
  | _ => none }
def inventoryMergesRow : OpenClaim := { program := "ytdnahgfgoajmcaadoor", sum := "7be02912f4c0eed41d716fd55d4621d3fc5f4c6e24b59fdfc9c767c25e68c6bd", func := "stolon/stolonlaw06.InventoryMerges", spec := "inventoryMerges", inPlace := ["internal/bytealg.Compare"], unfollowed := true, recurses := true, named := ["stolon/digest.rounds", "stolon/stolonref06.zero"], plainKeys := false, apart := false, laid := [("stolon/digest.rounds", laid_stolon_digest_rounds), ("stolon/stolonref06.zero", laid_stolon_stolonref06_zero)] }
def InventoryMergesSaid : Prop := inventoryMergesRow.holds Tryd.pinned (OpenSpec.ofChange inventoryMergesSpec)

/-- ITS FALSE NEIGHBOUR: 'it returns false'. Refute it at one input. -/
def inventoryMergesWrong : ChangeSpec := { name := "inventoryMerges", fn := fun _ => fun
  | [d] => { results := [.lit (.bool false)], args := [d] }
  | _ => none }
def InventoryMergesWrongFalsely : Prop := inventoryMergesRow.holds Tryd.pinned (OpenSpec.ofChange inventoryMergesWrong)

/-- 'stolonlaw06.InventoryRoots': WHATEVER THE INPUT: true; the input reads as it did. -/
def inventoryRootsSpec : ChangeSpec := { name := "inventoryRoots", fn := fun _ => fun
  | [d1, d2] => { results := [.lit (.bool true)], args := [d1, d2] }
  | _ => none }
def inventoryRootsRow : OpenClaim := { program := "ytdnahgfgoajmcaadoor", sum := "7be02912f4c0eed41d716fd55d4621d3fc5f4c6e24b59fdfc9c767c25e68c6bd", func := "stolon/stolonlaw06.InventoryRoots", spec := "inventoryRoots", inPlace := ["internal/bytealg.Compare"], unfollowed := true, recurses := true, named := ["stolon/digest.rounds", "stolon/stolonref06.zero", "stolon/stolonref02.rounds"], plainKeys := false, apart := false, laid := [("stolon/stolonref02.rounds", laid_stolon_stolonref02_rounds), ("stolon/digest.rounds", laid_stolon_digest_rounds), ("stolon/stolonref06.zero", laid_stolon_stolonref06_zero)] }
def InventoryRootsSaid : Prop := inventoryRootsRow.holds Tryd.pinned (OpenSpec.ofChange inventoryRootsSpec)

/-- ITS FALSE NEIGHBOUR: 'it returns false'. Refute it at one input. -/
def inventoryRootsWrong : ChangeSpec := { name := "inventoryRoots", fn := fun _ => fun
  | [d1, d2] => { results := [.lit (.bool false)], args := [d1, d2] }
  | _ => none }
def InventoryRootsWrongFalsely : Prop := inventoryRootsRow.holds Tryd.pinned (OpenSpec.ofChange inventoryRootsWrong)

/-- 'stolonlaw06.InventoryRecordBack': WHATEVER THE INPUT: true; the input reads as it did. -/
def inventoryRecordBackSpec : ChangeSpec := { name := "inventoryRecordBack", fn := fun _ => fun
  | [d1, d2] => { results := [.lit (.bool true)], args := [d1, d2] }
  | _ => none }
def inventoryRecordBackRow : OpenClaim := { program := "ytdnahgfgoajmcaadoor", sum := "7be02912f4c0eed41d716fd55d4621d3fc5f4c6e24b59fdfc9c767c25e68c6bd", func := "stolon/stolonlaw06.InventoryRecordBack", spec := "inventoryRecordBack", inPlace := ["internal/bytealg.Compare"], unfollowed := true, recurses := true, named := ["stolon/digest.rounds"], plainKeys := false, apart := false, laid := [("stolon/digest.rounds", laid_stolon_digest_rounds)] }
def InventoryRecordBackSaid : Prop := inventoryRecordBackRow.holds Tryd.pinned (OpenSpec.ofChange inventoryRecordBackSpec)

/-- ITS FALSE NEIGHBOUR: 'it returns false'. Refute it at one input. -/
def inventoryRecordBackWrong : ChangeSpec := { name := "inventoryRecordBack", fn := fun _ => fun
  | [d1, d2] => { results := [.lit (.bool false)], args := [d1, d2] }
  | _ => none }
def InventoryRecordBackWrongFalsely : Prop := inventoryRecordBackRow.holds Tryd.pinned (OpenSpec.ofChange inventoryRecordBackWrong)

/-- 'stolonlaw06.InventoryRecords': WHATEVER THE INPUT: true; the input reads as it did. -/
def inventoryRecordsSpec : ChangeSpec := { name := "inventoryRecords", fn := fun _ => fun
  | [d1, d2, d3] => { results := [.lit (.bool true)], args := [d1, d2, d3] }
  | _ => none }
def inventoryRecordsRow : OpenClaim := { program := "ytdnahgfgoajmcaadoor", sum := "7be02912f4c0eed41d716fd55d4621d3fc5f4c6e24b59fdfc9c767c25e68c6bd", func := "stolon/stolonlaw06.InventoryRecords", spec := "inventoryRecords", inPlace := ["internal/bytealg.Compare"], unfollowed := true, recurses := true, named := ["stolon/digest.rounds", "stolon/stolonref06.zero"], plainKeys := false, apart := false, laid := [("stolon/digest.rounds", laid_stolon_digest_rounds), ("stolon/stolonref06.zero", laid_stolon_stolonref06_zero)] }
def InventoryRecordsSaid : Prop := inventoryRecordsRow.holds Tryd.pinned (OpenSpec.ofChange inventoryRecordsSpec)

/-- ITS FALSE NEIGHBOUR: 'it returns false'. Refute it at one input. -/
def inventoryRecordsWrong : ChangeSpec := { name := "inventoryRecords", fn := fun _ => fun
  | [d1, d2, d3] => { results := [.lit (.bool false)], args := [d1, d2, d3] }
  | _ => none }
def InventoryRecordsWrongFalsely : Prop := inventoryRecordsRow.holds Tryd.pinned (OpenSpec.ofChange inventoryRecordsWrong)

/-- 'stolonlaw06.InventoryProofs': WHATEVER THE INPUT: true; the input reads as it did. -/
def inventoryProofsSpec : ChangeSpec := { name := "inventoryProofs", fn := fun _ => fun
  | [d] => { results := [.lit (.bool true)], args := [d] }
  | _ => none }
def inventoryProofsRow : OpenClaim := { program := "ytdnahgfgoajmcaadoor", sum := "7be02912f4c0eed41d716fd55d4621d3fc5f4c6e24b59fdfc9c767c25e68c6bd", func := "stolon/stolonlaw06.InventoryProofs", spec := "inventoryProofs", inPlace := ["internal/bytealg.Compare"], unfollowed := true, recurses := true, named := ["stolon/digest.rounds"], plainKeys := false, apart := false, laid := [("stolon/digest.rounds", laid_stolon_digest_rounds)] }
def InventoryProofsSaid : Prop := inventoryProofsRow.holds Tryd.pinned (OpenSpec.ofChange inventoryProofsSpec)

/-- ITS FALSE NEIGHBOUR: 'it returns false'. Refute it at one input. -/
def inventoryProofsWrong : ChangeSpec := { name := "inventoryProofs", fn := fun _ => fun
  | [d] => { results := [.lit (.bool false)], args := [d] }
  | _ => none }
def InventoryProofsWrongFalsely : Prop := inventoryProofsRow.holds Tryd.pinned (OpenSpec.ofChange inventoryProofsWrong)

/-- 'stolonlaw06.InventoryQuiet': WHATEVER THE INPUT: true; the input reads as it did. -/
def inventoryQuietSpec : ChangeSpec := { name := "inventoryQuiet", fn := fun _ => fun
  | [d1, d2, d3] => { results := [.lit (.bool true)], args := [d1, d2, d3] }
  | _ => none }
def inventoryQuietRow : OpenClaim := { program := "ytdnahgfgoajmcaadoor", sum := "7be02912f4c0eed41d716fd55d4621d3fc5f4c6e24b59fdfc9c767c25e68c6bd", func := "stolon/stolonlaw06.InventoryQuiet", spec := "inventoryQuiet", inPlace := ["internal/bytealg.Compare"], unfollowed := true, recurses := true, named := ["stolon/digest.rounds"], plainKeys := false, apart := false, laid := [("stolon/digest.rounds", laid_stolon_digest_rounds)] }
def InventoryQuietSaid : Prop := inventoryQuietRow.holds Tryd.pinned (OpenSpec.ofChange inventoryQuietSpec)

/-- ITS FALSE NEIGHBOUR: 'it returns false'. Refute it at one input. -/
def inventoryQuietWrong : ChangeSpec := { name := "inventoryQuiet", fn := fun _ => fun
  | [d1, d2, d3] => { results := [.lit (.bool false)], args := [d1, d2, d3] }
  | _ => none }
def InventoryQuietWrongFalsely : Prop := inventoryQuietRow.holds Tryd.pinned (OpenSpec.ofChange inventoryQuietWrong)

/-- 'stolonlaw06.InventoryMemory': WHATEVER THE INPUT: true; the input reads as it did. -/
def inventoryMemorySpec : ChangeSpec := { name := "inventoryMemory", fn := fun _ => fun
  | [d] => { results := [.lit (.bool true)], args := [d] }
  | _ => none }
def inventoryMemoryRow : OpenClaim := { program := "ytdnahgfgoajmcaadoor", sum := "7be02912f4c0eed41d716fd55d4621d3fc5f4c6e24b59fdfc9c767c25e68c6bd", func := "stolon/stolonlaw06.InventoryMemory", spec := "inventoryMemory", inPlace := ["internal/bytealg.Compare"], unfollowed := true, recurses := true, named := ["stolon/digest.rounds"], plainKeys := false, apart := false, laid := [("stolon/digest.rounds", laid_stolon_digest_rounds)] }
def InventoryMemorySaid : Prop := inventoryMemoryRow.holds Tryd.pinned (OpenSpec.ofChange inventoryMemorySpec)

/-- ITS FALSE NEIGHBOUR: 'it returns false'. Refute it at one input. -/
def inventoryMemoryWrong : ChangeSpec := { name := "inventoryMemory", fn := fun _ => fun
  | [d] => { results := [.lit (.bool false)], args := [d] }
  | _ => none }
def InventoryMemoryWrongFalsely : Prop := inventoryMemoryRow.holds Tryd.pinned (OpenSpec.ofChange inventoryMemoryWrong)

/- THE SECOND FORM. 'bulk': how many values and letters a reading holds, each counted each time it is reached (what is shared counts as often as it is met; a slice's spare places count too). A statement '..UptoSaid' is the law's where the arguments, and the package variables that the reading takes, are together of bulk at most 1048576: NARROWER than '..Said'. Prove '..Said' where nothing that the law and all that it calls make is longer than what came in: it says more and counts as full. Else prove '..UptoSaid'. A law counts once. -/
mutual
def uptoBulk {H : Type} : DataW H → Nat
  | .lit (.string bytes) => bytes.length + 1
  | .lit _ => 1
  | .nil => 1
  | .ptr d => uptoBulk d + 1
  | .slice elems spare => uptoBulkAll elems + uptoBulkAll spare + 1
  | .agg parts => uptoBulkAll parts + 1
  | .iface _ d => uptoBulk d + 1
  | .map entries => uptoBulkEntries entries + 1
  | .held _ => 1
def uptoBulkAll {H : Type} : List (DataW H) → Nat
  | [] => 0
  | d :: r => uptoBulk d + uptoBulkAll r
def uptoBulkEntries {H : Type} : List (Lit × DataW H) → Nat
  | [] => 0
  | x :: r => uptoBulkEntry x + uptoBulkEntries r
def uptoBulkEntry {H : Type} : Lit × DataW H → Nat
  | (.string bytes, d) => bytes.length + uptoBulk d + 1
  | (_, d) => uptoBulk d + 1
 end
def uptoSmall : (H : Type) → List (DataW H) → Bool := fun _ ds => decide (uptoBulkAll ds ≤ 1048576)
def OpenSpec.upto (s : _root_.Go.ChangeSpec) : _root_.Go.OpenSpec := { _root_.Go.OpenSpec.ofChange s with cond := some uptoSmall }

/-- 'stolonlaw06.InventoryRanges', WHERE WHAT IT READS IS OF BULK AT MOST 1048576: true; the input reads as it did. -/
def inventoryRangesUptoRow : OpenClaim := { program := "ytdnahgfgoajmcaadoor", sum := "7be02912f4c0eed41d716fd55d4621d3fc5f4c6e24b59fdfc9c767c25e68c6bd", func := "stolon/stolonlaw06.InventoryRanges", spec := "inventoryRanges", inPlace := ["internal/bytealg.Compare"], unfollowed := true, recurses := true, named := ["stolon/digest.rounds", "stolon/stolonref06.zero", "stolon/stolonref02.rounds"], plainKeys := false, apart := false, laid := [("stolon/stolonref02.rounds", laid_stolon_stolonref02_rounds), ("stolon/digest.rounds", laid_stolon_digest_rounds), ("stolon/stolonref06.zero", laid_stolon_stolonref06_zero)], narrowed := true }
def InventoryRangesUptoSaid : Prop := inventoryRangesUptoRow.holds Tryd.pinned (OpenSpec.upto inventoryRangesSpec)

/-- 'stolonlaw06.InventoryUnion', WHERE WHAT IT READS IS OF BULK AT MOST 1048576: true; the input reads as it did. -/
def inventoryUnionUptoRow : OpenClaim := { program := "ytdnahgfgoajmcaadoor", sum := "7be02912f4c0eed41d716fd55d4621d3fc5f4c6e24b59fdfc9c767c25e68c6bd", func := "stolon/stolonlaw06.InventoryUnion", spec := "inventoryUnion", inPlace := ["internal/bytealg.Compare"], unfollowed := true, recurses := true, named := ["stolon/digest.rounds"], plainKeys := false, apart := false, laid := [("stolon/digest.rounds", laid_stolon_digest_rounds)], narrowed := true }
def InventoryUnionUptoSaid : Prop := inventoryUnionUptoRow.holds Tryd.pinned (OpenSpec.upto inventoryUnionSpec)

/-- 'stolonlaw06.InventoryNormal', WHERE WHAT IT READS IS OF BULK AT MOST 1048576: true; the input reads as it did. -/
def inventoryNormalUptoRow : OpenClaim := { program := "ytdnahgfgoajmcaadoor", sum := "7be02912f4c0eed41d716fd55d4621d3fc5f4c6e24b59fdfc9c767c25e68c6bd", func := "stolon/stolonlaw06.InventoryNormal", spec := "inventoryNormal", inPlace := ["internal/bytealg.Compare"], unfollowed := true, recurses := true, named := ["stolon/digest.rounds"], plainKeys := false, apart := false, laid := [("stolon/digest.rounds", laid_stolon_digest_rounds)], narrowed := true }
def InventoryNormalUptoSaid : Prop := inventoryNormalUptoRow.holds Tryd.pinned (OpenSpec.upto inventoryNormalSpec)

/-- 'stolonlaw06.InventoryVerifies', WHERE WHAT IT READS IS OF BULK AT MOST 1048576: true; the input reads as it did. -/
def inventoryVerifiesUptoRow : OpenClaim := { program := "ytdnahgfgoajmcaadoor", sum := "7be02912f4c0eed41d716fd55d4621d3fc5f4c6e24b59fdfc9c767c25e68c6bd", func := "stolon/stolonlaw06.InventoryVerifies", spec := "inventoryVerifies", inPlace := ["internal/bytealg.Compare"], unfollowed := true, recurses := true, named := ["stolon/digest.rounds", "stolon/stolonref06.zero", "stolon/stolonref02.rounds"], plainKeys := false, apart := false, laid := [("stolon/stolonref02.rounds", laid_stolon_stolonref02_rounds), ("stolon/digest.rounds", laid_stolon_digest_rounds), ("stolon/stolonref06.zero", laid_stolon_stolonref06_zero)], narrowed := true }
def InventoryVerifiesUptoSaid : Prop := inventoryVerifiesUptoRow.holds Tryd.pinned (OpenSpec.upto inventoryVerifiesSpec)

/-- 'stolonlaw06.InventoryMerges', WHERE WHAT IT READS IS OF BULK AT MOST 1048576: true; the input reads as it did. -/
def inventoryMergesUptoRow : OpenClaim := { program := "ytdnahgfgoajmcaadoor", sum := "7be02912f4c0eed41d716fd55d4621d3fc5f4c6e24b59fdfc9c767c25e68c6bd", func := "stolon/stolonlaw06.InventoryMerges", spec := "inventoryMerges", inPlace := ["internal/bytealg.Compare"], unfollowed := true, recurses := true, named := ["stolon/digest.rounds", "stolon/stolonref06.zero"], plainKeys := false, apart := false, laid := [("stolon/digest.rounds", laid_stolon_digest_rounds), ("stolon/stolonref06.zero", laid_stolon_stolonref06_zero)], narrowed := true }
def InventoryMergesUptoSaid : Prop := inventoryMergesUptoRow.holds Tryd.pinned (OpenSpec.upto inventoryMergesSpec)

/-- 'stolonlaw06.InventoryRoots', WHERE WHAT IT READS IS OF BULK AT MOST 1048576: true; the input reads as it did. -/
def inventoryRootsUptoRow : OpenClaim := { program := "ytdnahgfgoajmcaadoor", sum := "7be02912f4c0eed41d716fd55d4621d3fc5f4c6e24b59fdfc9c767c25e68c6bd", func := "stolon/stolonlaw06.InventoryRoots", spec := "inventoryRoots", inPlace := ["internal/bytealg.Compare"], unfollowed := true, recurses := true, named := ["stolon/digest.rounds", "stolon/stolonref06.zero", "stolon/stolonref02.rounds"], plainKeys := false, apart := false, laid := [("stolon/stolonref02.rounds", laid_stolon_stolonref02_rounds), ("stolon/digest.rounds", laid_stolon_digest_rounds), ("stolon/stolonref06.zero", laid_stolon_stolonref06_zero)], narrowed := true }
def InventoryRootsUptoSaid : Prop := inventoryRootsUptoRow.holds Tryd.pinned (OpenSpec.upto inventoryRootsSpec)

/-- 'stolonlaw06.InventoryRecordBack', WHERE WHAT IT READS IS OF BULK AT MOST 1048576: true; the input reads as it did. -/
def inventoryRecordBackUptoRow : OpenClaim := { program := "ytdnahgfgoajmcaadoor", sum := "7be02912f4c0eed41d716fd55d4621d3fc5f4c6e24b59fdfc9c767c25e68c6bd", func := "stolon/stolonlaw06.InventoryRecordBack", spec := "inventoryRecordBack", inPlace := ["internal/bytealg.Compare"], unfollowed := true, recurses := true, named := ["stolon/digest.rounds"], plainKeys := false, apart := false, laid := [("stolon/digest.rounds", laid_stolon_digest_rounds)], narrowed := true }
def InventoryRecordBackUptoSaid : Prop := inventoryRecordBackUptoRow.holds Tryd.pinned (OpenSpec.upto inventoryRecordBackSpec)

/-- 'stolonlaw06.InventoryRecords', WHERE WHAT IT READS IS OF BULK AT MOST 1048576: true; the input reads as it did. -/
def inventoryRecordsUptoRow : OpenClaim := { program := "ytdnahgfgoajmcaadoor", sum := "7be02912f4c0eed41d716fd55d4621d3fc5f4c6e24b59fdfc9c767c25e68c6bd", func := "stolon/stolonlaw06.InventoryRecords", spec := "inventoryRecords", inPlace := ["internal/bytealg.Compare"], unfollowed := true, recurses := true, named := ["stolon/digest.rounds", "stolon/stolonref06.zero"], plainKeys := false, apart := false, laid := [("stolon/digest.rounds", laid_stolon_digest_rounds), ("stolon/stolonref06.zero", laid_stolon_stolonref06_zero)], narrowed := true }
def InventoryRecordsUptoSaid : Prop := inventoryRecordsUptoRow.holds Tryd.pinned (OpenSpec.upto inventoryRecordsSpec)

/-- 'stolonlaw06.InventoryProofs', WHERE WHAT IT READS IS OF BULK AT MOST 1048576: true; the input reads as it did. -/
def inventoryProofsUptoRow : OpenClaim := { program := "ytdnahgfgoajmcaadoor", sum := "7be02912f4c0eed41d716fd55d4621d3fc5f4c6e24b59fdfc9c767c25e68c6bd", func := "stolon/stolonlaw06.InventoryProofs", spec := "inventoryProofs", inPlace := ["internal/bytealg.Compare"], unfollowed := true, recurses := true, named := ["stolon/digest.rounds"], plainKeys := false, apart := false, laid := [("stolon/digest.rounds", laid_stolon_digest_rounds)], narrowed := true }
def InventoryProofsUptoSaid : Prop := inventoryProofsUptoRow.holds Tryd.pinned (OpenSpec.upto inventoryProofsSpec)

/-- 'stolonlaw06.InventoryQuiet', WHERE WHAT IT READS IS OF BULK AT MOST 1048576: true; the input reads as it did. -/
def inventoryQuietUptoRow : OpenClaim := { program := "ytdnahgfgoajmcaadoor", sum := "7be02912f4c0eed41d716fd55d4621d3fc5f4c6e24b59fdfc9c767c25e68c6bd", func := "stolon/stolonlaw06.InventoryQuiet", spec := "inventoryQuiet", inPlace := ["internal/bytealg.Compare"], unfollowed := true, recurses := true, named := ["stolon/digest.rounds"], plainKeys := false, apart := false, laid := [("stolon/digest.rounds", laid_stolon_digest_rounds)], narrowed := true }
def InventoryQuietUptoSaid : Prop := inventoryQuietUptoRow.holds Tryd.pinned (OpenSpec.upto inventoryQuietSpec)

/-- 'stolonlaw06.InventoryMemory', WHERE WHAT IT READS IS OF BULK AT MOST 1048576: true; the input reads as it did. -/
def inventoryMemoryUptoRow : OpenClaim := { program := "ytdnahgfgoajmcaadoor", sum := "7be02912f4c0eed41d716fd55d4621d3fc5f4c6e24b59fdfc9c767c25e68c6bd", func := "stolon/stolonlaw06.InventoryMemory", spec := "inventoryMemory", inPlace := ["internal/bytealg.Compare"], unfollowed := true, recurses := true, named := ["stolon/digest.rounds"], plainKeys := false, apart := false, laid := [("stolon/digest.rounds", laid_stolon_digest_rounds)], narrowed := true }
def InventoryMemoryUptoSaid : Prop := inventoryMemoryUptoRow.holds Tryd.pinned (OpenSpec.upto inventoryMemorySpec)

end Rows
end Go.Proofs.YtdnahgfgoajmcaaDoor
