/-
  NARROWER THAN 'FOR EVERY INPUT', by the rows' own cells (each row's printed sentence says how): StoreMemory: laid · StoreSound: laid · StoreKeeps: laid · StoreNothing: laid · StoreRot: laid · StoreScrubs: laid · StoreLives: laid · StoreScripts: laid · StoreOpens: laid.
  DERIVED. THE GIVEN ROWS OF THIS SEAT. 9 by the template 'for every input the law returns true; each argument reads behind the call as it read before'; 0 by the template 'total and deterministic' (their statements: YtdhpgacmgebjdaaGreatDoorTotals.lean).
  GIVEN WITH THE SEED: the statements are not yours to turn. If you find one false, say at which input.
  Laid BY PROGRAM, IN A SANDBOX (cutbox-rows.mjs): the forced cells as the released guide's own fill.sh prints them over the translation b4d51181c308aaa4… (all of the seat's roots in one cut). By AI agents, Wed Nov 11 2026. No macro, syntax, notation, axiom, sorry.
-/
import Derived.Test.YtdhpgacmgebjdaaGreatDoorChecked
import GoSem.Claim
import GoSem.ClaimJoined
import GoSem.ClaimMapViews
import Derived.JoinedTies
import Derived.KernelRfl
namespace Go.Proofs.YtdhpgacmgebjdaaGreatDoor
/- THE CELL 'sum', in the pinned program and in every row, IS THE sha256 OF THE DUMP (.gsa) THAT YtdhpgacmgebjdaaGreatDoorProg.lean LOADS. Nothing in Lean hashes anything: it is a label: what it is worth is what the hold of that sum in a sandbox is worth. -/
noncomputable def Tryz.pinned : Pinned := { name := "ytdhpgacmgebjdaagreatdoor", sum := "b4d51181c308aaa45ffe04b87f66e77894482280c0eb6d43cf098b86ecc3335c", checked := Tryz.checked }
namespace Rows
def none {H : Type} : Left H := { results := [], args := [] }

/- WHAT THE LISTED PACKAGE-LEVEL VARIABLES READ AS WHEN THE CALL BEGINS. Each datum BY PROGRAM (the guide's laid-datum.mjs) off the statement by which the dump's own 'gosem.cut.vars' lays the variable. In a bare row this is a premise. The card (YtdhpgacmgebjdaaGreatDoorCards.lean) ties it to the program's text. -/
def laid_stolon_digest_rounds {H : Type} : DataW H := .agg [.lit (.int .u32 1116352408), .lit (.int .u32 1899447441), .lit (.int .u32 3049323471), .lit (.int .u32 3921009573), .lit (.int .u32 961987163), .lit (.int .u32 1508970993), .lit (.int .u32 2453635748), .lit (.int .u32 2870763221), .lit (.int .u32 3624381080), .lit (.int .u32 310598401), .lit (.int .u32 607225278), .lit (.int .u32 1426881987), .lit (.int .u32 1925078388), .lit (.int .u32 2162078206), .lit (.int .u32 2614888103), .lit (.int .u32 3248222580), .lit (.int .u32 3835390401), .lit (.int .u32 4022224774), .lit (.int .u32 264347078), .lit (.int .u32 604807628), .lit (.int .u32 770255983), .lit (.int .u32 1249150122), .lit (.int .u32 1555081692), .lit (.int .u32 1996064986), .lit (.int .u32 2554220882), .lit (.int .u32 2821834349), .lit (.int .u32 2952996808), .lit (.int .u32 3210313671), .lit (.int .u32 3336571891), .lit (.int .u32 3584528711), .lit (.int .u32 113926993), .lit (.int .u32 338241895), .lit (.int .u32 666307205), .lit (.int .u32 773529912), .lit (.int .u32 1294757372), .lit (.int .u32 1396182291), .lit (.int .u32 1695183700), .lit (.int .u32 1986661051), .lit (.int .u32 2177026350), .lit (.int .u32 2456956037), .lit (.int .u32 2730485921), .lit (.int .u32 2820302411), .lit (.int .u32 3259730800), .lit (.int .u32 3345764771), .lit (.int .u32 3516065817), .lit (.int .u32 3600352804), .lit (.int .u32 4094571909), .lit (.int .u32 275423344), .lit (.int .u32 430227734), .lit (.int .u32 506948616), .lit (.int .u32 659060556), .lit (.int .u32 883997877), .lit (.int .u32 958139571), .lit (.int .u32 1322822218), .lit (.int .u32 1537002063), .lit (.int .u32 1747873779), .lit (.int .u32 1955562222), .lit (.int .u32 2024104815), .lit (.int .u32 2227730452), .lit (.int .u32 2361852424), .lit (.int .u32 2428436474), .lit (.int .u32 2756734187), .lit (.int .u32 3204031479), .lit (.int .u32 3329325298)]
def laid_stolon_stolonref02_rounds {H : Type} : DataW H := .agg [.lit (.int .u32 1116352408), .lit (.int .u32 1899447441), .lit (.int .u32 3049323471), .lit (.int .u32 3921009573), .lit (.int .u32 961987163), .lit (.int .u32 1508970993), .lit (.int .u32 2453635748), .lit (.int .u32 2870763221), .lit (.int .u32 3624381080), .lit (.int .u32 310598401), .lit (.int .u32 607225278), .lit (.int .u32 1426881987), .lit (.int .u32 1925078388), .lit (.int .u32 2162078206), .lit (.int .u32 2614888103), .lit (.int .u32 3248222580), .lit (.int .u32 3835390401), .lit (.int .u32 4022224774), .lit (.int .u32 264347078), .lit (.int .u32 604807628), .lit (.int .u32 770255983), .lit (.int .u32 1249150122), .lit (.int .u32 1555081692), .lit (.int .u32 1996064986), .lit (.int .u32 2554220882), .lit (.int .u32 2821834349), .lit (.int .u32 2952996808), .lit (.int .u32 3210313671), .lit (.int .u32 3336571891), .lit (.int .u32 3584528711), .lit (.int .u32 113926993), .lit (.int .u32 338241895), .lit (.int .u32 666307205), .lit (.int .u32 773529912), .lit (.int .u32 1294757372), .lit (.int .u32 1396182291), .lit (.int .u32 1695183700), .lit (.int .u32 1986661051), .lit (.int .u32 2177026350), .lit (.int .u32 2456956037), .lit (.int .u32 2730485921), .lit (.int .u32 2820302411), .lit (.int .u32 3259730800), .lit (.int .u32 3345764771), .lit (.int .u32 3516065817), .lit (.int .u32 3600352804), .lit (.int .u32 4094571909), .lit (.int .u32 275423344), .lit (.int .u32 430227734), .lit (.int .u32 506948616), .lit (.int .u32 659060556), .lit (.int .u32 883997877), .lit (.int .u32 958139571), .lit (.int .u32 1322822218), .lit (.int .u32 1537002063), .lit (.int .u32 1747873779), .lit (.int .u32 1955562222), .lit (.int .u32 2024104815), .lit (.int .u32 2227730452), .lit (.int .u32 2361852424), .lit (.int .u32 2428436474), .lit (.int .u32 2756734187), .lit (.int .u32 3204031479), .lit (.int .u32 3329325298)]

/-- 'stolonlaw04.StoreMemory': WHATEVER THE INPUT: true; the input reads as it did. -/
def storeMemorySpec : ChangeSpec := { name := "storeMemory", fn := fun _ => fun
  | [d1, d2] => { results := [.lit (.bool true)], args := [d1, d2] }
  | _ => none }
def storeMemoryRow : OpenClaim := { program := "ytdhpgacmgebjdaagreatdoor", sum := "b4d51181c308aaa45ffe04b87f66e77894482280c0eb6d43cf098b86ecc3335c", func := "stolon/stolonlaw04.StoreMemory", spec := "storeMemory", inPlace := ["internal/bytealg.Compare", "sync/atomic.LoadUint32", "(*internal/sync.Mutex).Lock", "internal/race.Disable", "sync/atomic.CompareAndSwapInt32", "internal/race.Enable", "internal/race.Acquire", "(*internal/sync.Mutex).lockSlow", "internal/sync.runtime_canSpin", "internal/sync.runtime_doSpin", "internal/sync.throw", "internal/sync.runtime_nanotime", "internal/sync.runtime_SemacquireMutex", "sync/atomic.AddInt32", "(*internal/sync.Mutex).Unlock", "internal/race.ReleaseMerge", "(*internal/sync.Mutex).unlockSlow", "internal/sync.fatal", "internal/sync.runtime_Semrelease", "sync/atomic.StoreUint32", "maps.clone"], unfollowed := true, recurses := true, named := ["stolon/digest.rounds"], plainKeys := false, apart := false, laid := [("stolon/digest.rounds", laid_stolon_digest_rounds)] }
def StoreMemorySaid : Prop := storeMemoryRow.holds Tryz.pinned (OpenSpec.ofChange storeMemorySpec)

/-- ITS FALSE NEIGHBOUR: 'it returns false'. Refute it at one input. -/
def storeMemoryWrong : ChangeSpec := { name := "storeMemory", fn := fun _ => fun
  | [d1, d2] => { results := [.lit (.bool false)], args := [d1, d2] }
  | _ => none }
def StoreMemoryWrongFalsely : Prop := storeMemoryRow.holds Tryz.pinned (OpenSpec.ofChange storeMemoryWrong)

/-- 'stolonlaw04.StoreSound': WHATEVER THE INPUT: true; the input reads as it did. -/
def storeSoundSpec : ChangeSpec := { name := "storeSound", fn := fun _ => fun
  | [d1, d2, d3] => { results := [.lit (.bool true)], args := [d1, d2, d3] }
  | _ => none }
def storeSoundRow : OpenClaim := { program := "ytdhpgacmgebjdaagreatdoor", sum := "b4d51181c308aaa45ffe04b87f66e77894482280c0eb6d43cf098b86ecc3335c", func := "stolon/stolonlaw04.StoreSound", spec := "storeSound", inPlace := ["internal/bytealg.Compare", "sync/atomic.LoadUint32", "(*internal/sync.Mutex).Lock", "internal/race.Disable", "sync/atomic.CompareAndSwapInt32", "internal/race.Enable", "internal/race.Acquire", "(*internal/sync.Mutex).lockSlow", "internal/sync.runtime_canSpin", "internal/sync.runtime_doSpin", "internal/sync.throw", "internal/sync.runtime_nanotime", "internal/sync.runtime_SemacquireMutex", "sync/atomic.AddInt32", "(*internal/sync.Mutex).Unlock", "internal/race.ReleaseMerge", "(*internal/sync.Mutex).unlockSlow", "internal/sync.fatal", "internal/sync.runtime_Semrelease", "sync/atomic.StoreUint32", "maps.clone"], unfollowed := true, recurses := true, named := ["stolon/digest.rounds"], plainKeys := false, apart := false, laid := [("stolon/digest.rounds", laid_stolon_digest_rounds)] }
def StoreSoundSaid : Prop := storeSoundRow.holds Tryz.pinned (OpenSpec.ofChange storeSoundSpec)

/-- ITS FALSE NEIGHBOUR: 'it returns false'. Refute it at one input. -/
def storeSoundWrong : ChangeSpec := { name := "storeSound", fn := fun _ => fun
  | [d1, d2, d3] => { results := [.lit (.bool false)], args := [d1, d2, d3] }
  | _ => none }
def StoreSoundWrongFalsely : Prop := storeSoundRow.holds Tryz.pinned (OpenSpec.ofChange storeSoundWrong)

/-- 'stolonlaw04.StoreKeeps': WHATEVER THE INPUT: true; the input reads as it did. -/
def storeKeepsSpec : ChangeSpec := { name := "storeKeeps", fn := fun _ => fun
  | [d1, d2, d3] => { results := [.lit (.bool true)], args := [d1, d2, d3] }
  | _ => none }
def storeKeepsRow : OpenClaim := { program := "ytdhpgacmgebjdaagreatdoor", sum := "b4d51181c308aaa45ffe04b87f66e77894482280c0eb6d43cf098b86ecc3335c", func := "stolon/stolonlaw04.StoreKeeps", spec := "storeKeeps", inPlace := ["internal/bytealg.Compare", "sync/atomic.LoadUint32", "(*internal/sync.Mutex).Lock", "internal/race.Disable", "sync/atomic.CompareAndSwapInt32", "internal/race.Enable", "internal/race.Acquire", "(*internal/sync.Mutex).lockSlow", "internal/sync.runtime_canSpin", "internal/sync.runtime_doSpin", "internal/sync.throw", "internal/sync.runtime_nanotime", "internal/sync.runtime_SemacquireMutex", "sync/atomic.AddInt32", "(*internal/sync.Mutex).Unlock", "internal/race.ReleaseMerge", "(*internal/sync.Mutex).unlockSlow", "internal/sync.fatal", "internal/sync.runtime_Semrelease", "sync/atomic.StoreUint32", "maps.clone"], unfollowed := true, recurses := true, named := ["stolon/digest.rounds"], plainKeys := false, apart := false, laid := [("stolon/digest.rounds", laid_stolon_digest_rounds)] }
def StoreKeepsSaid : Prop := storeKeepsRow.holds Tryz.pinned (OpenSpec.ofChange storeKeepsSpec)

/-- ITS FALSE NEIGHBOUR: 'it returns false'. Refute it at one input. -/
def storeKeepsWrong : ChangeSpec := { name := "storeKeeps", fn := fun _ => fun
  | [d1, d2, d3] => { results := [.lit (.bool false)], args := [d1, d2, d3] }
  | _ => none }
def StoreKeepsWrongFalsely : Prop := storeKeepsRow.holds Tryz.pinned (OpenSpec.ofChange storeKeepsWrong)

/-- 'stolonlaw04.StoreNothing': WHATEVER THE INPUT: true; the input reads as it did. -/
def storeNothingSpec : ChangeSpec := { name := "storeNothing", fn := fun _ => fun
  | [d] => { results := [.lit (.bool true)], args := [d] }
  | _ => none }
def storeNothingRow : OpenClaim := { program := "ytdhpgacmgebjdaagreatdoor", sum := "b4d51181c308aaa45ffe04b87f66e77894482280c0eb6d43cf098b86ecc3335c", func := "stolon/stolonlaw04.StoreNothing", spec := "storeNothing", inPlace := ["internal/bytealg.Compare", "sync/atomic.LoadUint32", "(*internal/sync.Mutex).Lock", "internal/race.Disable", "sync/atomic.CompareAndSwapInt32", "internal/race.Enable", "internal/race.Acquire", "(*internal/sync.Mutex).lockSlow", "internal/sync.runtime_canSpin", "internal/sync.runtime_doSpin", "internal/sync.throw", "internal/sync.runtime_nanotime", "internal/sync.runtime_SemacquireMutex", "sync/atomic.AddInt32", "(*internal/sync.Mutex).Unlock", "internal/race.ReleaseMerge", "(*internal/sync.Mutex).unlockSlow", "internal/sync.fatal", "internal/sync.runtime_Semrelease", "sync/atomic.StoreUint32", "maps.clone"], unfollowed := true, recurses := true, named := ["stolon/digest.rounds"], plainKeys := false, apart := false, laid := [("stolon/digest.rounds", laid_stolon_digest_rounds)] }
def StoreNothingSaid : Prop := storeNothingRow.holds Tryz.pinned (OpenSpec.ofChange storeNothingSpec)

/-- ITS FALSE NEIGHBOUR: 'it returns false'. Refute it at one input. -/
def storeNothingWrong : ChangeSpec := { name := "storeNothing", fn := fun _ => fun
  | [d] => { results := [.lit (.bool false)], args := [d] }
  | _ => none }
def StoreNothingWrongFalsely : Prop := storeNothingRow.holds Tryz.pinned (OpenSpec.ofChange storeNothingWrong)

/-- 'stolonlaw04.StoreRot': WHATEVER THE INPUT: true; the input reads as it did. -/
def storeRotSpec : ChangeSpec := { name := "storeRot", fn := fun _ => fun
  | [d1, d2, d3] => { results := [.lit (.bool true)], args := [d1, d2, d3] }
  | _ => none }
def storeRotRow : OpenClaim := { program := "ytdhpgacmgebjdaagreatdoor", sum := "b4d51181c308aaa45ffe04b87f66e77894482280c0eb6d43cf098b86ecc3335c", func := "stolon/stolonlaw04.StoreRot", spec := "storeRot", inPlace := ["internal/bytealg.Compare", "sync/atomic.LoadUint32", "(*internal/sync.Mutex).Lock", "internal/race.Disable", "sync/atomic.CompareAndSwapInt32", "internal/race.Enable", "internal/race.Acquire", "(*internal/sync.Mutex).lockSlow", "internal/sync.runtime_canSpin", "internal/sync.runtime_doSpin", "internal/sync.throw", "internal/sync.runtime_nanotime", "internal/sync.runtime_SemacquireMutex", "sync/atomic.AddInt32", "(*internal/sync.Mutex).Unlock", "internal/race.ReleaseMerge", "(*internal/sync.Mutex).unlockSlow", "internal/sync.fatal", "internal/sync.runtime_Semrelease", "sync/atomic.StoreUint32", "maps.clone"], unfollowed := true, recurses := true, named := ["stolon/digest.rounds"], plainKeys := false, apart := false, laid := [("stolon/digest.rounds", laid_stolon_digest_rounds)] }
def StoreRotSaid : Prop := storeRotRow.holds Tryz.pinned (OpenSpec.ofChange storeRotSpec)

/-- ITS FALSE NEIGHBOUR: 'it returns false'. Refute it at one input. -/
def storeRotWrong : ChangeSpec := { name := "storeRot", fn := fun _ => fun
  | [d1, d2, d3] => { results := [.lit (.bool false)], args := [d1, d2, d3] }
  | _ => none }
def StoreRotWrongFalsely : Prop := storeRotRow.holds Tryz.pinned (OpenSpec.ofChange storeRotWrong)

/-- 'stolonlaw04.StoreScrubs': WHATEVER THE INPUT: true; the input reads as it did. -/
def storeScrubsSpec : ChangeSpec := { name := "storeScrubs", fn := fun _ => fun
  | [d1, d2, d3] => { results := [.lit (.bool true)], args := [d1, d2, d3] }
  | _ => none }
def storeScrubsRow : OpenClaim := { program := "ytdhpgacmgebjdaagreatdoor", sum := "b4d51181c308aaa45ffe04b87f66e77894482280c0eb6d43cf098b86ecc3335c", func := "stolon/stolonlaw04.StoreScrubs", spec := "storeScrubs", inPlace := ["internal/bytealg.Compare", "sync/atomic.LoadUint32", "(*internal/sync.Mutex).Lock", "internal/race.Disable", "sync/atomic.CompareAndSwapInt32", "internal/race.Enable", "internal/race.Acquire", "(*internal/sync.Mutex).lockSlow", "internal/sync.runtime_canSpin", "internal/sync.runtime_doSpin", "internal/sync.throw", "internal/sync.runtime_nanotime", "internal/sync.runtime_SemacquireMutex", "sync/atomic.AddInt32", "(*internal/sync.Mutex).Unlock", "internal/race.ReleaseMerge", "(*internal/sync.Mutex).unlockSlow", "internal/sync.fatal", "internal/sync.runtime_Semrelease", "sync/atomic.StoreUint32", "maps.clone"], unfollowed := true, recurses := true, named := ["stolon/digest.rounds"], plainKeys := false, apart := false, laid := [("stolon/digest.rounds", laid_stolon_digest_rounds)] }
def StoreScrubsSaid : Prop := storeScrubsRow.holds Tryz.pinned (OpenSpec.ofChange storeScrubsSpec)

/-- ITS FALSE NEIGHBOUR: 'it returns false'. Refute it at one input. -/
def storeScrubsWrong : ChangeSpec := { name := "storeScrubs", fn := fun _ => fun
  | [d1, d2, d3] => { results := [.lit (.bool false)], args := [d1, d2, d3] }
  | _ => none }
def StoreScrubsWrongFalsely : Prop := storeScrubsRow.holds Tryz.pinned (OpenSpec.ofChange storeScrubsWrong)

/-- 'stolonlaw04.StoreLives': WHATEVER THE INPUT: true; the input reads as it did. -/
def storeLivesSpec : ChangeSpec := { name := "storeLives", fn := fun _ => fun
  | [d1, d2, d3] => { results := [.lit (.bool true)], args := [d1, d2, d3] }
  | _ => none }
def storeLivesRow : OpenClaim := { program := "ytdhpgacmgebjdaagreatdoor", sum := "b4d51181c308aaa45ffe04b87f66e77894482280c0eb6d43cf098b86ecc3335c", func := "stolon/stolonlaw04.StoreLives", spec := "storeLives", inPlace := ["internal/bytealg.Compare", "sync/atomic.LoadUint32", "(*internal/sync.Mutex).Lock", "internal/race.Disable", "sync/atomic.CompareAndSwapInt32", "internal/race.Enable", "internal/race.Acquire", "(*internal/sync.Mutex).lockSlow", "internal/sync.runtime_canSpin", "internal/sync.runtime_doSpin", "internal/sync.throw", "internal/sync.runtime_nanotime", "internal/sync.runtime_SemacquireMutex", "sync/atomic.AddInt32", "(*internal/sync.Mutex).Unlock", "internal/race.ReleaseMerge", "(*internal/sync.Mutex).unlockSlow", "internal/sync.fatal", "internal/sync.runtime_Semrelease", "sync/atomic.StoreUint32", "maps.clone"], unfollowed := true, recurses := true, named := ["stolon/digest.rounds", "stolon/stolonref02.rounds"], plainKeys := false, apart := false, laid := [("stolon/stolonref02.rounds", laid_stolon_stolonref02_rounds), ("stolon/digest.rounds", laid_stolon_digest_rounds)] }
def StoreLivesSaid : Prop := storeLivesRow.holds Tryz.pinned (OpenSpec.ofChange storeLivesSpec)

/-- ITS FALSE NEIGHBOUR: 'it returns false'. Refute it at one input. -/
def storeLivesWrong : ChangeSpec := { name := "storeLives", fn := fun _ => fun
  | [d1, d2, d3] => { results := [.lit (.bool false)], args := [d1, d2, d3] }
  | _ => none }
def StoreLivesWrongFalsely : Prop := storeLivesRow.holds Tryz.pinned (OpenSpec.ofChange storeLivesWrong)

/-- 'stolonlaw04.StoreScripts': WHATEVER THE INPUT: true; the input reads as it did. -/
def storeScriptsSpec : ChangeSpec := { name := "storeScripts", fn := fun _ => fun
  | [d1, d2] => { results := [.lit (.bool true)], args := [d1, d2] }
  | _ => none }
def storeScriptsRow : OpenClaim := { program := "ytdhpgacmgebjdaagreatdoor", sum := "b4d51181c308aaa45ffe04b87f66e77894482280c0eb6d43cf098b86ecc3335c", func := "stolon/stolonlaw04.StoreScripts", spec := "storeScripts", inPlace := ["internal/bytealg.Compare", "sync/atomic.LoadUint32", "(*internal/sync.Mutex).Lock", "internal/race.Disable", "sync/atomic.CompareAndSwapInt32", "internal/race.Enable", "internal/race.Acquire", "(*internal/sync.Mutex).lockSlow", "internal/sync.runtime_canSpin", "internal/sync.runtime_doSpin", "internal/sync.throw", "internal/sync.runtime_nanotime", "internal/sync.runtime_SemacquireMutex", "sync/atomic.AddInt32", "(*internal/sync.Mutex).Unlock", "internal/race.ReleaseMerge", "(*internal/sync.Mutex).unlockSlow", "internal/sync.fatal", "internal/sync.runtime_Semrelease", "sync/atomic.StoreUint32", "maps.clone"], unfollowed := true, recurses := true, named := ["stolon/digest.rounds", "stolon/stolonref02.rounds"], plainKeys := false, apart := false, laid := [("stolon/stolonref02.rounds", laid_stolon_stolonref02_rounds), ("stolon/digest.rounds", laid_stolon_digest_rounds)] }
def StoreScriptsSaid : Prop := storeScriptsRow.holds Tryz.pinned (OpenSpec.ofChange storeScriptsSpec)

/-- ITS FALSE NEIGHBOUR: 'it returns false'. Refute it at one input. -/
def storeScriptsWrong : ChangeSpec := { name := "storeScripts", fn := fun _ => fun
  | [d1, d2] => { results := [.lit (.bool false)], args := [d1, d2] }
  | _ => none }
def StoreScriptsWrongFalsely : Prop := storeScriptsRow.holds Tryz.pinned (OpenSpec.ofChange storeScriptsWrong)

/-- 'stolonlaw04.StoreOpens': WHATEVER THE INPUT: true; the input reads as it did. -/
def storeOpensSpec : ChangeSpec := { name := "storeOpens", fn := fun _ => fun
  | [d1, d2] => { results := [.lit (.bool true)], args := [d1, d2] }
  | _ => none }
def storeOpensRow : OpenClaim := { program := "ytdhpgacmgebjdaagreatdoor", sum := "b4d51181c308aaa45ffe04b87f66e77894482280c0eb6d43cf098b86ecc3335c", func := "stolon/stolonlaw04.StoreOpens", spec := "storeOpens", inPlace := ["internal/bytealg.Compare", "sync/atomic.LoadUint32", "(*internal/sync.Mutex).Lock", "internal/race.Disable", "sync/atomic.CompareAndSwapInt32", "internal/race.Enable", "internal/race.Acquire", "(*internal/sync.Mutex).lockSlow", "internal/sync.runtime_canSpin", "internal/sync.runtime_doSpin", "internal/sync.throw", "internal/sync.runtime_nanotime", "internal/sync.runtime_SemacquireMutex", "sync/atomic.AddInt32", "(*internal/sync.Mutex).Unlock", "internal/race.ReleaseMerge", "(*internal/sync.Mutex).unlockSlow", "internal/sync.fatal", "internal/sync.runtime_Semrelease", "sync/atomic.StoreUint32", "maps.clone"], unfollowed := true, recurses := true, named := ["stolon/digest.rounds", "stolon/stolonref02.rounds"], plainKeys := false, apart := false, laid := [("stolon/stolonref02.rounds", laid_stolon_stolonref02_rounds), ("stolon/digest.rounds", laid_stolon_digest_rounds)] }
def StoreOpensSaid : Prop := storeOpensRow.holds Tryz.pinned (OpenSpec.ofChange storeOpensSpec)

/-- ITS FALSE NEIGHBOUR: 'it returns false'. Refute it at one input. -/
def storeOpensWrong : ChangeSpec := { name := "storeOpens", fn := fun _ => fun
  | [d1, d2] => { results := [.lit (.bool false)], args := [d1, d2] }
  | _ => none }
def StoreOpensWrongFalsely : Prop := storeOpensRow.holds Tryz.pinned (OpenSpec.ofChange storeOpensWrong)

/- THE SECOND FORM. 'bulk': how many values and letters a reading holds, each counted each time it is reached (what is shared counts as often as it is met; a slice's spare places count too). A statement '..UptoSaid' is the law's where the arguments, and the package variables that the reading takes, are together of bulk at most 1048576: NARROWER than '..Said'. Prove '..Said' where nothing that the law and all that it calls make is longer than what came in: it says more and counts as full. Else prove '..UptoSaid'. A law counts once. -/
mutual
def uptoBulk {H : Type} : DataW H → Nat
  | .lit (.string bytes) => bytes.length + 1
  | .lit _ => 1
  | .nil => 1
  | .ptr d => uptoBulk d + 1
  | .slice elems spare => uptoBulkAll elems + uptoBulkAll spare + 1
  | .agg parts => uptoBulkAll parts + 1
  | .iface _ d => uptoBulk d + 1
  | .map entries => uptoBulkEntries entries + 1
  | .held _ => 1
def uptoBulkAll {H : Type} : List (DataW H) → Nat
  | [] => 0
  | d :: r => uptoBulk d + uptoBulkAll r
def uptoBulkEntries {H : Type} : List (Lit × DataW H) → Nat
  | [] => 0
  | x :: r => uptoBulkEntry x + uptoBulkEntries r
def uptoBulkEntry {H : Type} : Lit × DataW H → Nat
  | (.string bytes, d) => bytes.length + uptoBulk d + 1
  | (_, d) => uptoBulk d + 1
 end
def uptoSmall : (H : Type) → List (DataW H) → Bool := fun _ ds => decide (uptoBulkAll ds ≤ 1048576)
def OpenSpec.upto (s : _root_.Go.ChangeSpec) : _root_.Go.OpenSpec := { _root_.Go.OpenSpec.ofChange s with cond := some uptoSmall }

/-- 'stolonlaw04.StoreMemory', WHERE WHAT IT READS IS OF BULK AT MOST 1048576: true; the input reads as it did. -/
def storeMemoryUptoRow : OpenClaim := { program := "ytdhpgacmgebjdaagreatdoor", sum := "b4d51181c308aaa45ffe04b87f66e77894482280c0eb6d43cf098b86ecc3335c", func := "stolon/stolonlaw04.StoreMemory", spec := "storeMemory", inPlace := ["internal/bytealg.Compare", "sync/atomic.LoadUint32", "(*internal/sync.Mutex).Lock", "internal/race.Disable", "sync/atomic.CompareAndSwapInt32", "internal/race.Enable", "internal/race.Acquire", "(*internal/sync.Mutex).lockSlow", "internal/sync.runtime_canSpin", "internal/sync.runtime_doSpin", "internal/sync.throw", "internal/sync.runtime_nanotime", "internal/sync.runtime_SemacquireMutex", "sync/atomic.AddInt32", "(*internal/sync.Mutex).Unlock", "internal/race.ReleaseMerge", "(*internal/sync.Mutex).unlockSlow", "internal/sync.fatal", "internal/sync.runtime_Semrelease", "sync/atomic.StoreUint32", "maps.clone"], unfollowed := true, recurses := true, named := ["stolon/digest.rounds"], plainKeys := false, apart := false, laid := [("stolon/digest.rounds", laid_stolon_digest_rounds)], narrowed := true }
def StoreMemoryUptoSaid : Prop := storeMemoryUptoRow.holds Tryz.pinned (OpenSpec.upto storeMemorySpec)

/-- 'stolonlaw04.StoreSound', WHERE WHAT IT READS IS OF BULK AT MOST 1048576: true; the input reads as it did. -/
def storeSoundUptoRow : OpenClaim := { program := "ytdhpgacmgebjdaagreatdoor", sum := "b4d51181c308aaa45ffe04b87f66e77894482280c0eb6d43cf098b86ecc3335c", func := "stolon/stolonlaw04.StoreSound", spec := "storeSound", inPlace := ["internal/bytealg.Compare", "sync/atomic.LoadUint32", "(*internal/sync.Mutex).Lock", "internal/race.Disable", "sync/atomic.CompareAndSwapInt32", "internal/race.Enable", "internal/race.Acquire", "(*internal/sync.Mutex).lockSlow", "internal/sync.runtime_canSpin", "internal/sync.runtime_doSpin", "internal/sync.throw", "internal/sync.runtime_nanotime", "internal/sync.runtime_SemacquireMutex", "sync/atomic.AddInt32", "(*internal/sync.Mutex).Unlock", "internal/race.ReleaseMerge", "(*internal/sync.Mutex).unlockSlow", "internal/sync.fatal", "internal/sync.runtime_Semrelease", "sync/atomic.StoreUint32", "maps.clone"], unfollowed := true, recurses := true, named := ["stolon/digest.rounds"], plainKeys := false, apart := false, laid := [("stolon/digest.rounds", laid_stolon_digest_rounds)], narrowed := true }
def StoreSoundUptoSaid : Prop := storeSoundUptoRow.holds Tryz.pinned (OpenSpec.upto storeSoundSpec)

/-- 'stolonlaw04.StoreKeeps', WHERE WHAT IT READS IS OF BULK AT MOST 1048576: true; the input reads as it did. -/
def storeKeepsUptoRow : OpenClaim := { program := "ytdhpgacmgebjdaagreatdoor", sum := "b4d51181c308aaa45ffe04b87f66e77894482280c0eb6d43cf098b86ecc3335c", func := "stolon/stolonlaw04.StoreKeeps", spec := "storeKeeps", inPlace := ["internal/bytealg.Compare", "sync/atomic.LoadUint32", "(*internal/sync.Mutex).Lock", "internal/race.Disable", "sync/atomic.CompareAndSwapInt32", "internal/race.Enable", "internal/race.Acquire", "(*internal/sync.Mutex).lockSlow", "internal/sync.runtime_canSpin", "internal/sync.runtime_doSpin", "internal/sync.throw", "internal/sync.runtime_nanotime", "internal/sync.runtime_SemacquireMutex", "sync/atomic.AddInt32", "(*internal/sync.Mutex).Unlock", "internal/race.ReleaseMerge", "(*internal/sync.Mutex).unlockSlow", "internal/sync.fatal", "internal/sync.runtime_Semrelease", "sync/atomic.StoreUint32", "maps.clone"], unfollowed := true, recurses := true, named := ["stolon/digest.rounds"], plainKeys := false, apart := false, laid := [("stolon/digest.rounds", laid_stolon_digest_rounds)], narrowed := true }
def StoreKeepsUptoSaid : Prop := storeKeepsUptoRow.holds Tryz.pinned (OpenSpec.upto storeKeepsSpec)

/-- 'stolonlaw04.StoreNothing', WHERE WHAT IT READS IS OF BULK AT MOST 1048576: true; the input reads as it did. -/
def storeNothingUptoRow : OpenClaim := { program := "ytdhpgacmgebjdaagreatdoor", sum := "b4d51181c308aaa45ffe04b87f66e77894482280c0eb6d43cf098b86ecc3335c", func := "stolon/stolonlaw04.StoreNothing", spec := "storeNothing", inPlace := ["internal/bytealg.Compare", "sync/atomic.LoadUint32", "(*internal/sync.Mutex).Lock", "internal/race.Disable", "sync/atomic.CompareAndSwapInt32", "internal/race.Enable", "internal/race.Acquire", "(*internal/sync.Mutex).lockSlow", "internal/sync.runtime_canSpin", "internal/sync.runtime_doSpin", "internal/sync.throw", "internal/sync.runtime_nanotime", "internal/sync.runtime_SemacquireMutex", "sync/atomic.AddInt32", "(*internal/sync.Mutex).Unlock", "internal/race.ReleaseMerge", "(*internal/sync.Mutex).unlockSlow", "internal/sync.fatal", "internal/sync.runtime_Semrelease", "sync/atomic.StoreUint32", "maps.clone"], unfollowed := true, recurses := true, named := ["stolon/digest.rounds"], plainKeys := false, apart := false, laid := [("stolon/digest.rounds", laid_stolon_digest_rounds)], narrowed := true }
def StoreNothingUptoSaid : Prop := storeNothingUptoRow.holds Tryz.pinned (OpenSpec.upto storeNothingSpec)

/-- 'stolonlaw04.StoreRot', WHERE WHAT IT READS IS OF BULK AT MOST 1048576: true; the input reads as it did. -/
def storeRotUptoRow : OpenClaim := { program := "ytdhpgacmgebjdaagreatdoor", sum := "b4d51181c308aaa45ffe04b87f66e77894482280c0eb6d43cf098b86ecc3335c", func := "stolon/stolonlaw04.StoreRot", spec := "storeRot", inPlace := ["internal/bytealg.Compare", "sync/atomic.LoadUint32", "(*internal/sync.Mutex).Lock", "internal/race.Disable", "sync/atomic.CompareAndSwapInt32", "internal/race.Enable", "internal/race.Acquire", "(*internal/sync.Mutex).lockSlow", "internal/sync.runtime_canSpin", "internal/sync.runtime_doSpin", "internal/sync.throw", "internal/sync.runtime_nanotime", "internal/sync.runtime_SemacquireMutex", "sync/atomic.AddInt32", "(*internal/sync.Mutex).Unlock", "internal/race.ReleaseMerge", "(*internal/sync.Mutex).unlockSlow", "internal/sync.fatal", "internal/sync.runtime_Semrelease", "sync/atomic.StoreUint32", "maps.clone"], unfollowed := true, recurses := true, named := ["stolon/digest.rounds"], plainKeys := false, apart := false, laid := [("stolon/digest.rounds", laid_stolon_digest_rounds)], narrowed := true }
def StoreRotUptoSaid : Prop := storeRotUptoRow.holds Tryz.pinned (OpenSpec.upto storeRotSpec)

/-- 'stolonlaw04.StoreScrubs', WHERE WHAT IT READS IS OF BULK AT MOST 1048576: true; the input reads as it did. -/
def storeScrubsUptoRow : OpenClaim := { program := "ytdhpgacmgebjdaagreatdoor", sum := "b4d51181c308aaa45ffe04b87f66e77894482280c0eb6d43cf098b86ecc3335c", func := "stolon/stolonlaw04.StoreScrubs", spec := "storeScrubs", inPlace := ["internal/bytealg.Compare", "sync/atomic.LoadUint32", "(*internal/sync.Mutex).Lock", "internal/race.Disable", "sync/atomic.CompareAndSwapInt32", "internal/race.Enable", "internal/race.Acquire", "(*internal/sync.Mutex).lockSlow", "internal/sync.runtime_canSpin", "internal/sync.runtime_doSpin", "internal/sync.throw", "internal/sync.runtime_nanotime", "internal/sync.runtime_SemacquireMutex", "sync/atomic.AddInt32", "(*internal/sync.Mutex).Unlock", "internal/race.ReleaseMerge", "(*internal/sync.Mutex).unlockSlow", "internal/sync.fatal", "internal/sync.runtime_Semrelease", "sync/atomic.StoreUint32", "maps.clone"], unfollowed := true, recurses := true, named := ["stolon/digest.rounds"], plainKeys := false, apart := false, laid := [("stolon/digest.rounds", laid_stolon_digest_rounds)], narrowed := true }
def StoreScrubsUptoSaid : Prop := storeScrubsUptoRow.holds Tryz.pinned (OpenSpec.upto storeScrubsSpec)

/-- 'stolonlaw04.StoreLives', WHERE WHAT IT READS IS OF BULK AT MOST 1048576: true; the input reads as it did. -/
def storeLivesUptoRow : OpenClaim := { program := "ytdhpgacmgebjdaagreatdoor", sum := "b4d51181c308aaa45ffe04b87f66e77894482280c0eb6d43cf098b86ecc3335c", func := "stolon/stolonlaw04.StoreLives", spec := "storeLives", inPlace := ["internal/bytealg.Compare", "sync/atomic.LoadUint32", "(*internal/sync.Mutex).Lock", "internal/race.Disable", "sync/atomic.CompareAndSwapInt32", "internal/race.Enable", "internal/race.Acquire", "(*internal/sync.Mutex).lockSlow", "internal/sync.runtime_canSpin", "internal/sync.runtime_doSpin", "internal/sync.throw", "internal/sync.runtime_nanotime", "internal/sync.runtime_SemacquireMutex", "sync/atomic.AddInt32", "(*internal/sync.Mutex).Unlock", "internal/race.ReleaseMerge", "(*internal/sync.Mutex).unlockSlow", "internal/sync.fatal", "internal/sync.runtime_Semrelease", "sync/atomic.StoreUint32", "maps.clone"], unfollowed := true, recurses := true, named := ["stolon/digest.rounds", "stolon/stolonref02.rounds"], plainKeys := false, apart := false, laid := [("stolon/stolonref02.rounds", laid_stolon_stolonref02_rounds), ("stolon/digest.rounds", laid_stolon_digest_rounds)], narrowed := true }
def StoreLivesUptoSaid : Prop := storeLivesUptoRow.holds Tryz.pinned (OpenSpec.upto storeLivesSpec)

/-- 'stolonlaw04.StoreScripts', WHERE WHAT IT READS IS OF BULK AT MOST 1048576: true; the input reads as it did. -/
def storeScriptsUptoRow : OpenClaim := { program := "ytdhpgacmgebjdaagreatdoor", sum := "b4d51181c308aaa45ffe04b87f66e77894482280c0eb6d43cf098b86ecc3335c", func := "stolon/stolonlaw04.StoreScripts", spec := "storeScripts", inPlace := ["internal/bytealg.Compare", "sync/atomic.LoadUint32", "(*internal/sync.Mutex).Lock", "internal/race.Disable", "sync/atomic.CompareAndSwapInt32", "internal/race.Enable", "internal/race.Acquire", "(*internal/sync.Mutex).lockSlow", "internal/sync.runtime_canSpin", "internal/sync.runtime_doSpin", "internal/sync.throw", "internal/sync.runtime_nanotime", "internal/sync.runtime_SemacquireMutex", "sync/atomic.AddInt32", "(*internal/sync.Mutex).Unlock", "internal/race.ReleaseMerge", "(*internal/sync.Mutex).unlockSlow", "internal/sync.fatal", "internal/sync.runtime_Semrelease", "sync/atomic.StoreUint32", "maps.clone"], unfollowed := true, recurses := true, named := ["stolon/digest.rounds", "stolon/stolonref02.rounds"], plainKeys := false, apart := false, laid := [("stolon/stolonref02.rounds", laid_stolon_stolonref02_rounds), ("stolon/digest.rounds", laid_stolon_digest_rounds)], narrowed := true }
def StoreScriptsUptoSaid : Prop := storeScriptsUptoRow.holds Tryz.pinned (OpenSpec.upto storeScriptsSpec)

/-- 'stolonlaw04.StoreOpens', WHERE WHAT IT READS IS OF BULK AT MOST 1048576: true; the input reads as it did. -/
def storeOpensUptoRow : OpenClaim := { program := "ytdhpgacmgebjdaagreatdoor", sum := "b4d51181c308aaa45ffe04b87f66e77894482280c0eb6d43cf098b86ecc3335c", func := "stolon/stolonlaw04.StoreOpens", spec := "storeOpens", inPlace := ["internal/bytealg.Compare", "sync/atomic.LoadUint32", "(*internal/sync.Mutex).Lock", "internal/race.Disable", "sync/atomic.CompareAndSwapInt32", "internal/race.Enable", "internal/race.Acquire", "(*internal/sync.Mutex).lockSlow", "internal/sync.runtime_canSpin", "internal/sync.runtime_doSpin", "internal/sync.throw", "internal/sync.runtime_nanotime", "internal/sync.runtime_SemacquireMutex", "sync/atomic.AddInt32", "(*internal/sync.Mutex).Unlock", "internal/race.ReleaseMerge", "(*internal/sync.Mutex).unlockSlow", "internal/sync.fatal", "internal/sync.runtime_Semrelease", "sync/atomic.StoreUint32", "maps.clone"], unfollowed := true, recurses := true, named := ["stolon/digest.rounds", "stolon/stolonref02.rounds"], plainKeys := false, apart := false, laid := [("stolon/stolonref02.rounds", laid_stolon_stolonref02_rounds), ("stolon/digest.rounds", laid_stolon_digest_rounds)], narrowed := true }
def StoreOpensUptoSaid : Prop := storeOpensUptoRow.holds Tryz.pinned (OpenSpec.upto storeOpensSpec)

end Rows
end Go.Proofs.YtdhpgacmgebjdaaGreatDoor
