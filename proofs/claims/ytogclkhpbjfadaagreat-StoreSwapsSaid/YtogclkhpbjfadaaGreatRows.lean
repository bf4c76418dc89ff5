/-
  No cell of these rows narrows 'for every input' (looked for: loops, veiled, ifaces, maps, wideKeys, modest, calm, conditions, laid).
  DERIVED. THE GIVEN ROWS OF THIS SEAT. 12 by the template 'for every input the law returns true; each argument reads behind the call as it read before'; 0 by the template 'total and deterministic' (their statements: YtogclkhpbjfadaaGreatTotals.lean).
  GIVEN WITH THE SEED: the statements are not yours to turn. If you find one false, say at which input.
  Laid BY PROGRAM, IN A SANDBOX (cutbox-rows.mjs): the forced cells as the released guide's own fill.sh prints them over the translation 9ecc43f1e5c533a5… (all of the seat's roots in one cut). By AI agents, Wed Nov 11 2026. No macro, syntax, notation, axiom, sorry.
-/
import Derived.Test.YtogclkhpbjfadaaGreatChecked
import GoSem.Claim
import GoSem.ClaimJoined
import GoSem.ClaimMapViews
import Derived.JoinedTies
import Derived.KernelRfl
namespace Go.Proofs.YtogclkhpbjfadaaGreat
/- THE CELL 'sum', in the pinned program and in every row, IS THE sha256 OF THE DUMP (.gsa) THAT YtogclkhpbjfadaaGreatProg.lean LOADS. Nothing in Lean hashes anything: it is a label: what it is worth is what the hold of that sum in a sandbox is worth. -/
noncomputable def Tryz.pinned : Pinned := { name := "ytogclkhpbjfadaagreat", sum := "9ecc43f1e5c533a535eedffe589308eb90c3a6c35f1f554f79950e2b0eb8911e", checked := Tryz.checked }
namespace Rows
def none {H : Type} : Left H := { results := [], args := [] }

/-- 'goitlaw6.LogOpens': WHATEVER THE INPUT: true; the input reads as it did. -/
def logOpensSpec : ChangeSpec := { name := "logOpens", fn := fun _ => fun
  | [d1, d2, d3] => { results := [.lit (.bool true)], args := [d1, d2, d3] }
  | _ => none }
def logOpensRow : OpenClaim := { program := "ytogclkhpbjfadaagreat", sum := "9ecc43f1e5c533a535eedffe589308eb90c3a6c35f1f554f79950e2b0eb8911e", func := "goit/goitlaw6.LogOpens", spec := "logOpens", inPlace := ["maps.clone"], unfollowed := true, recurses := true, plainKeys := false, apart := false }
def LogOpensSaid : Prop := logOpensRow.holds Tryz.pinned (OpenSpec.ofChange logOpensSpec)

/-- ITS FALSE NEIGHBOUR: 'it returns false'. Refute it at one input. -/
def logOpensWrong : ChangeSpec := { name := "logOpens", fn := fun _ => fun
  | [d1, d2, d3] => { results := [.lit (.bool false)], args := [d1, d2, d3] }
  | _ => none }
def LogOpensWrongFalsely : Prop := logOpensRow.holds Tryz.pinned (OpenSpec.ofChange logOpensWrong)

/-- 'goitlaw6.LogLasts': WHATEVER THE INPUT: true; the input reads as it did. -/
def logLastsSpec : ChangeSpec := { name := "logLasts", fn := fun _ => fun
  | [d1, d2, d3, d4] => { results := [.lit (.bool true)], args := [d1, d2, d3, d4] }
  | _ => none }
def logLastsRow : OpenClaim := { program := "ytogclkhpbjfadaagreat", sum := "9ecc43f1e5c533a535eedffe589308eb90c3a6c35f1f554f79950e2b0eb8911e", func := "goit/goitlaw6.LogLasts", spec := "logLasts", inPlace := ["maps.clone"], unfollowed := true, recurses := true, plainKeys := false, apart := false }
def LogLastsSaid : Prop := logLastsRow.holds Tryz.pinned (OpenSpec.ofChange logLastsSpec)

/-- ITS FALSE NEIGHBOUR: 'it returns false'. Refute it at one input. -/
def logLastsWrong : ChangeSpec := { name := "logLasts", fn := fun _ => fun
  | [d1, d2, d3, d4] => { results := [.lit (.bool false)], args := [d1, d2, d3, d4] }
  | _ => none }
def LogLastsWrongFalsely : Prop := logLastsRow.holds Tryz.pinned (OpenSpec.ofChange logLastsWrong)

/-- 'goitlaw6.LogSwaps': WHATEVER THE INPUT: true; the input reads as it did. -/
def logSwapsSpec : ChangeSpec := { name := "logSwaps", fn := fun _ => fun
  | [d1, d2, d3, d4, d5] => { results := [.lit (.bool true)], args := [d1, d2, d3, d4, d5] }
  | _ => none }
def logSwapsRow : OpenClaim := { program := "ytogclkhpbjfadaagreat", sum := "9ecc43f1e5c533a535eedffe589308eb90c3a6c35f1f554f79950e2b0eb8911e", func := "goit/goitlaw6.LogSwaps", spec := "logSwaps", inPlace := ["maps.clone"], unfollowed := true, recurses := true, plainKeys := false, apart := false }
def LogSwapsSaid : Prop := logSwapsRow.holds Tryz.pinned (OpenSpec.ofChange logSwapsSpec)

/-- ITS FALSE NEIGHBOUR: 'it returns false'. Refute it at one input. -/
def logSwapsWrong : ChangeSpec := { name := "logSwaps", fn := fun _ => fun
  | [d1, d2, d3, d4, d5] => { results := [.lit (.bool false)], args := [d1, d2, d3, d4, d5] }
  | _ => none }
def LogSwapsWrongFalsely : Prop := logSwapsRow.holds Tryz.pinned (OpenSpec.ofChange logSwapsWrong)

/-- 'goitlaw15.StoreSure': WHATEVER THE INPUT: true; the input reads as it did. -/
def storeSureSpec : ChangeSpec := { name := "storeSure", fn := fun _ => fun
  | [d1, d2] => { results := [.lit (.bool true)], args := [d1, d2] }
  | _ => none }
def storeSureRow : OpenClaim := { program := "ytogclkhpbjfadaagreat", sum := "9ecc43f1e5c533a535eedffe589308eb90c3a6c35f1f554f79950e2b0eb8911e", func := "goit/goitlaw15.StoreSure", spec := "storeSure", inPlace := ["maps.clone"], unfollowed := true, recurses := true, plainKeys := false, apart := false }
def StoreSureSaid : Prop := storeSureRow.holds Tryz.pinned (OpenSpec.ofChange storeSureSpec)

/-- ITS FALSE NEIGHBOUR: 'it returns false'. Refute it at one input. -/
def storeSureWrong : ChangeSpec := { name := "storeSure", fn := fun _ => fun
  | [d1, d2] => { results := [.lit (.bool false)], args := [d1, d2] }
  | _ => none }
def StoreSureWrongFalsely : Prop := storeSureRow.holds Tryz.pinned (OpenSpec.ofChange storeSureWrong)

/-- 'goitlaw15.StoreReads': WHATEVER THE INPUT: true; the input reads as it did. -/
def storeReadsSpec : ChangeSpec := { name := "storeReads", fn := fun _ => fun
  | [d1, d2, d3] => { results := [.lit (.bool true)], args := [d1, d2, d3] }
  | _ => none }
def storeReadsRow : OpenClaim := { program := "ytogclkhpbjfadaagreat", sum := "9ecc43f1e5c533a535eedffe589308eb90c3a6c35f1f554f79950e2b0eb8911e", func := "goit/goitlaw15.StoreReads", spec := "storeReads", inPlace := ["maps.clone"], unfollowed := true, recurses := true, plainKeys := false, apart := false }
def StoreReadsSaid : Prop := storeReadsRow.holds Tryz.pinned (OpenSpec.ofChange storeReadsSpec)

/-- ITS FALSE NEIGHBOUR: 'it returns false'. Refute it at one input. -/
def storeReadsWrong : ChangeSpec := { name := "storeReads", fn := fun _ => fun
  | [d1, d2, d3] => { results := [.lit (.bool false)], args := [d1, d2, d3] }
  | _ => none }
def StoreReadsWrongFalsely : Prop := storeReadsRow.holds Tryz.pinned (OpenSpec.ofChange storeReadsWrong)

/-- 'goitlaw15.StoreLasts': WHATEVER THE INPUT: true; the input reads as it did. -/
def storeLastsSpec : ChangeSpec := { name := "storeLasts", fn := fun _ => fun
  | [d1, d2, d3, d4, d5] => { results := [.lit (.bool true)], args := [d1, d2, d3, d4, d5] }
  | _ => none }
def storeLastsRow : OpenClaim := { program := "ytogclkhpbjfadaagreat", sum := "9ecc43f1e5c533a535eedffe589308eb90c3a6c35f1f554f79950e2b0eb8911e", func := "goit/goitlaw15.StoreLasts", spec := "storeLasts", inPlace := ["maps.clone"], unfollowed := true, recurses := true, plainKeys := false, apart := false }
def StoreLastsSaid : Prop := storeLastsRow.holds Tryz.pinned (OpenSpec.ofChange storeLastsSpec)

/-- ITS FALSE NEIGHBOUR: 'it returns false'. Refute it at one input. -/
def storeLastsWrong : ChangeSpec := { name := "storeLasts", fn := fun _ => fun
  | [d1, d2, d3, d4, d5] => { results := [.lit (.bool false)], args := [d1, d2, d3, d4, d5] }
  | _ => none }
def StoreLastsWrongFalsely : Prop := storeLastsRow.holds Tryz.pinned (OpenSpec.ofChange storeLastsWrong)

/-- 'goitlaw15.StoreRefuses': WHATEVER THE INPUT: true; the input reads as it did. -/
def storeRefusesSpec : ChangeSpec := { name := "storeRefuses", fn := fun _ => fun
  | [d1, d2, d3] => { results := [.lit (.bool true)], args := [d1, d2, d3] }
  | _ => none }
def storeRefusesRow : OpenClaim := { program := "ytogclkhpbjfadaagreat", sum := "9ecc43f1e5c533a535eedffe589308eb90c3a6c35f1f554f79950e2b0eb8911e", func := "goit/goitlaw15.StoreRefuses", spec := "storeRefuses", inPlace := ["maps.clone"], unfollowed := true, recurses := true, plainKeys := false, apart := false }
def StoreRefusesSaid : Prop := storeRefusesRow.holds Tryz.pinned (OpenSpec.ofChange storeRefusesSpec)

/-- ITS FALSE NEIGHBOUR: 'it returns false'. Refute it at one input. -/
def storeRefusesWrong : ChangeSpec := { name := "storeRefuses", fn := fun _ => fun
  | [d1, d2, d3] => { results := [.lit (.bool false)], args := [d1, d2, d3] }
  | _ => none }
def StoreRefusesWrongFalsely : Prop := storeRefusesRow.holds Tryz.pinned (OpenSpec.ofChange storeRefusesWrong)

/-- 'goitlaw15.StoreSwaps': WHATEVER THE INPUT: true; the input reads as it did. -/
def storeSwapsSpec : ChangeSpec := { name := "storeSwaps", fn := fun _ => fun
  | [d1, d2, d3, d4] => { results := [.lit (.bool true)], args := [d1, d2, d3, d4] }
  | _ => none }
def storeSwapsRow : OpenClaim := { program := "ytogclkhpbjfadaagreat", sum := "9ecc43f1e5c533a535eedffe589308eb90c3a6c35f1f554f79950e2b0eb8911e", func := "goit/goitlaw15.StoreSwaps", spec := "storeSwaps", inPlace := ["maps.clone"], unfollowed := true, recurses := true, plainKeys := false, apart := false }
def StoreSwapsSaid : Prop := storeSwapsRow.holds Tryz.pinned (OpenSpec.ofChange storeSwapsSpec)

/-- ITS FALSE NEIGHBOUR: 'it returns false'. Refute it at one input. -/
def storeSwapsWrong : ChangeSpec := { name := "storeSwaps", fn := fun _ => fun
  | [d1, d2, d3, d4] => { results := [.lit (.bool false)], args := [d1, d2, d3, d4] }
  | _ => none }
def StoreSwapsWrongFalsely : Prop := storeSwapsRow.holds Tryz.pinned (OpenSpec.ofChange storeSwapsWrong)

/-- 'goitlaw16.CompactBounds': WHATEVER THE INPUT: true; the input reads as it did. -/
def compactBoundsSpec : ChangeSpec := { name := "compactBounds", fn := fun _ => fun
  | [d1, d2, d3] => { results := [.lit (.bool true)], args := [d1, d2, d3] }
  | _ => none }
def compactBoundsRow : OpenClaim := { program := "ytogclkhpbjfadaagreat", sum := "9ecc43f1e5c533a535eedffe589308eb90c3a6c35f1f554f79950e2b0eb8911e", func := "goit/goitlaw16.CompactBounds", spec := "compactBounds", inPlace := ["maps.clone"], unfollowed := true, recurses := true, plainKeys := false, apart := false }
def CompactBoundsSaid : Prop := compactBoundsRow.holds Tryz.pinned (OpenSpec.ofChange compactBoundsSpec)

/-- ITS FALSE NEIGHBOUR: 'it returns false'. Refute it at one input. -/
def compactBoundsWrong : ChangeSpec := { name := "compactBounds", fn := fun _ => fun
  | [d1, d2, d3] => { results := [.lit (.bool false)], args := [d1, d2, d3] }
  | _ => none }
def CompactBoundsWrongFalsely : Prop := compactBoundsRow.holds Tryz.pinned (OpenSpec.ofChange compactBoundsWrong)

/-- 'goitlaw16.CompactAgain': WHATEVER THE INPUT: true; the input reads as it did. -/
def compactAgainSpec : ChangeSpec := { name := "compactAgain", fn := fun _ => fun
  | [d1, d2, d3, d4] => { results := [.lit (.bool true)], args := [d1, d2, d3, d4] }
  | _ => none }
def compactAgainRow : OpenClaim := { program := "ytogclkhpbjfadaagreat", sum := "9ecc43f1e5c533a535eedffe589308eb90c3a6c35f1f554f79950e2b0eb8911e", func := "goit/goitlaw16.CompactAgain", spec := "compactAgain", inPlace := ["maps.clone"], unfollowed := true, recurses := true, plainKeys := false, apart := false }
def CompactAgainSaid : Prop := compactAgainRow.holds Tryz.pinned (OpenSpec.ofChange compactAgainSpec)

/-- ITS FALSE NEIGHBOUR: 'it returns false'. Refute it at one input. -/
def compactAgainWrong : ChangeSpec := { name := "compactAgain", fn := fun _ => fun
  | [d1, d2, d3, d4] => { results := [.lit (.bool false)], args := [d1, d2, d3, d4] }
  | _ => none }
def CompactAgainWrongFalsely : Prop := compactAgainRow.holds Tryz.pinned (OpenSpec.ofChange compactAgainWrong)

/-- 'goitlaw16.CompactBreaks': WHATEVER THE INPUT: true; the input reads as it did. -/
def compactBreaksSpec : ChangeSpec := { name := "compactBreaks", fn := fun _ => fun
  | [d1, d2, d3, d4, d5] => { results := [.lit (.bool true)], args := [d1, d2, d3, d4, d5] }
  | _ => none }
def compactBreaksRow : OpenClaim := { program := "ytogclkhpbjfadaagreat", sum := "9ecc43f1e5c533a535eedffe589308eb90c3a6c35f1f554f79950e2b0eb8911e", func := "goit/goitlaw16.CompactBreaks", spec := "compactBreaks", inPlace := ["maps.clone"], unfollowed := true, recurses := true, plainKeys := false, apart := false }
def CompactBreaksSaid : Prop := compactBreaksRow.holds Tryz.pinned (OpenSpec.ofChange compactBreaksSpec)

/-- ITS FALSE NEIGHBOUR: 'it returns false'. Refute it at one input. -/
def compactBreaksWrong : ChangeSpec := { name := "compactBreaks", fn := fun _ => fun
  | [d1, d2, d3, d4, d5] => { results := [.lit (.bool false)], args := [d1, d2, d3, d4, d5] }
  | _ => none }
def CompactBreaksWrongFalsely : Prop := compactBreaksRow.holds Tryz.pinned (OpenSpec.ofChange compactBreaksWrong)

/-- 'goitlaw16.CompactKeeps': WHATEVER THE INPUT: true; the input reads as it did. -/
def compactKeepsSpec : ChangeSpec := { name := "compactKeeps", fn := fun _ => fun
  | [d1, d2, d3] => { results := [.lit (.bool true)], args := [d1, d2, d3] }
  | _ => none }
def compactKeepsRow : OpenClaim := { program := "ytogclkhpbjfadaagreat", sum := "9ecc43f1e5c533a535eedffe589308eb90c3a6c35f1f554f79950e2b0eb8911e", func := "goit/goitlaw16.CompactKeeps", spec := "compactKeeps", inPlace := ["maps.clone"], unfollowed := true, recurses := true, plainKeys := false, apart := false }
def CompactKeepsSaid : Prop := compactKeepsRow.holds Tryz.pinned (OpenSpec.ofChange compactKeepsSpec)

/-- ITS FALSE NEIGHBOUR: 'it returns false'. Refute it at one input. -/
def compactKeepsWrong : ChangeSpec := { name := "compactKeeps", fn := fun _ => fun
  | [d1, d2, d3] => { results := [.lit (.bool false)], args := [d1, d2, d3] }
  | _ => none }
def CompactKeepsWrongFalsely : Prop := compactKeepsRow.holds Tryz.pinned (OpenSpec.ofChange compactKeepsWrong)

/- THE SECOND FORM. 'bulk': how many values and letters a reading holds, each counted each time it is reached (what is shared counts as often as it is met; a slice's spare places count too). A statement '..UptoSaid' is the law's where the arguments, and the package variables that the reading takes, are together of bulk at most 1048576: NARROWER than '..Said'. Prove '..Said' where nothing that the law and all that it calls make is longer than what came in: it says more and counts as full. Else prove '..UptoSaid'. A law counts once. -/
mutual
def uptoBulk {H : Type} : DataW H → Nat
  | .lit (.string bytes) => bytes.length + 1
  | .lit _ => 1
  | .nil => 1
  | .ptr d => uptoBulk d + 1
  | .slice elems spare => uptoBulkAll elems + uptoBulkAll spare + 1
  | .agg parts => uptoBulkAll parts + 1
  | .iface _ d => uptoBulk d + 1
  | .map entries => uptoBulkEntries entries + 1
  | .held _ => 1
def uptoBulkAll {H : Type} : List (DataW H) → Nat
  | [] => 0
  | d :: r => uptoBulk d + uptoBulkAll r
def uptoBulkEntries {H : Type} : List (Lit × DataW H) → Nat
  | [] => 0
  | x :: r => uptoBulkEntry x + uptoBulkEntries r
def uptoBulkEntry {H : Type} : Lit × DataW H → Nat
  | (.string bytes, d) => bytes.length + uptoBulk d + 1
  | (_, d) => uptoBulk d + 1
 end
def uptoSmall : (H : Type) → List (DataW H) → Bool := fun _ ds => decide (uptoBulkAll ds ≤ 1048576)
def OpenSpec.upto (s : _root_.Go.ChangeSpec) : _root_.Go.OpenSpec := { _root_.Go.OpenSpec.ofChange s with cond := some uptoSmall }

/-- 'goitlaw6.LogOpens', WHERE WHAT IT READS IS OF BULK AT MOST 1048576: true; the input reads as it did. -/
def logOpensUptoRow : OpenClaim := { program := "ytogclkhpbjfadaagreat", sum := "9ecc43f1e5c533a535eedffe589308eb90c3a6c35f1f554f79950e2b0eb8911e", func := "goit/goitlaw6.LogOpens", spec := "logOpens", inPlace := ["maps.clone"], unfollowed := true, recurses := true, plainKeys := false, apart := false, narrowed := true }
def LogOpensUptoSaid : Prop := logOpensUptoRow.holds Tryz.pinned (OpenSpec.upto logOpensSpec)

/-- 'goitlaw6.LogLasts', WHERE WHAT IT READS IS OF BULK AT MOST 1048576: true; the input reads as it did. -/
def logLastsUptoRow : OpenClaim := { program := "ytogclkhpbjfadaagreat", sum := "9ecc43f1e5c533a535eedffe589308eb90c3a6c35f1f554f79950e2b0eb8911e", func := "goit/goitlaw6.LogLasts", spec := "logLasts", inPlace := ["maps.clone"], unfollowed := true, recurses := true, plainKeys := false, apart := false, narrowed := true }
def LogLastsUptoSaid : Prop := logLastsUptoRow.holds Tryz.pinned (OpenSpec.upto logLastsSpec)

/-- 'goitlaw6.LogSwaps', WHERE WHAT IT READS IS OF BULK AT MOST 1048576: true; the input reads as it did. -/
def logSwapsUptoRow : OpenClaim := { program := "ytogclkhpbjfadaagreat", sum := "9ecc43f1e5c533a535eedffe589308eb90c3a6c35f1f554f79950e2b0eb8911e", func := "goit/goitlaw6.LogSwaps", spec := "logSwaps", inPlace := ["maps.clone"], unfollowed := true, recurses := true, plainKeys := false, apart := false, narrowed := true }
def LogSwapsUptoSaid : Prop := logSwapsUptoRow.holds Tryz.pinned (OpenSpec.upto logSwapsSpec)

/-- 'goitlaw15.StoreSure', WHERE WHAT IT READS IS OF BULK AT MOST 1048576: true; the input reads as it did. -/
def storeSureUptoRow : OpenClaim := { program := "ytogclkhpbjfadaagreat", sum := "9ecc43f1e5c533a535eedffe589308eb90c3a6c35f1f554f79950e2b0eb8911e", func := "goit/goitlaw15.StoreSure", spec := "storeSure", inPlace := ["maps.clone"], unfollowed := true, recurses := true, plainKeys := false, apart := false, narrowed := true }
def StoreSureUptoSaid : Prop := storeSureUptoRow.holds Tryz.pinned (OpenSpec.upto storeSureSpec)

/-- 'goitlaw15.StoreReads', WHERE WHAT IT READS IS OF BULK AT MOST 1048576: true; the input reads as it did. -/
def storeReadsUptoRow : OpenClaim := { program := "ytogclkhpbjfadaagreat", sum := "9ecc43f1e5c533a535eedffe589308eb90c3a6c35f1f554f79950e2b0eb8911e", func := "goit/goitlaw15.StoreReads", spec := "storeReads", inPlace := ["maps.clone"], unfollowed := true, recurses := true, plainKeys := false, apart := false, narrowed := true }
def StoreReadsUptoSaid : Prop := storeReadsUptoRow.holds Tryz.pinned (OpenSpec.upto storeReadsSpec)

/-- 'goitlaw15.StoreLasts', WHERE WHAT IT READS IS OF BULK AT MOST 1048576: true; the input reads as it did. -/
def storeLastsUptoRow : OpenClaim := { program := "ytogclkhpbjfadaagreat", sum := "9ecc43f1e5c533a535eedffe589308eb90c3a6c35f1f554f79950e2b0eb8911e", func := "goit/goitlaw15.StoreLasts", spec := "storeLasts", inPlace := ["maps.clone"], unfollowed := true, recurses := true, plainKeys := false, apart := false, narrowed := true }
def StoreLastsUptoSaid : Prop := storeLastsUptoRow.holds Tryz.pinned (OpenSpec.upto storeLastsSpec)

/-- 'goitlaw15.StoreRefuses', WHERE WHAT IT READS IS OF BULK AT MOST 1048576: true; the input reads as it did. -/
def storeRefusesUptoRow : OpenClaim := { program := "ytogclkhpbjfadaagreat", sum := "9ecc43f1e5c533a535eedffe589308eb90c3a6c35f1f554f79950e2b0eb8911e", func := "goit/goitlaw15.StoreRefuses", spec := "storeRefuses", inPlace := ["maps.clone"], unfollowed := true, recurses := true, plainKeys := false, apart := false, narrowed := true }
def StoreRefusesUptoSaid : Prop := storeRefusesUptoRow.holds Tryz.pinned (OpenSpec.upto storeRefusesSpec)

/-- 'goitlaw15.StoreSwaps', WHERE WHAT IT READS IS OF BULK AT MOST 1048576: true; the input reads as it did. -/
def storeSwapsUptoRow : OpenClaim := { program := "ytogclkhpbjfadaagreat", sum := "9ecc43f1e5c533a535eedffe589308eb90c3a6c35f1f554f79950e2b0eb8911e", func := "goit/goitlaw15.StoreSwaps", spec := "storeSwaps", inPlace := ["maps.clone"], unfollowed := true, recurses := true, plainKeys := false, apart := false, narrowed := true }
def StoreSwapsUptoSaid : Prop := storeSwapsUptoRow.holds Tryz.pinned (OpenSpec.upto storeSwapsSpec)

/-- 'goitlaw16.CompactBounds', WHERE WHAT IT READS IS OF BULK AT MOST 1048576: true; the input reads as it did. -/
def compactBoundsUptoRow : OpenClaim := { program := "ytogclkhpbjfadaagreat", sum := "9ecc43f1e5c533a535eedffe589308eb90c3a6c35f1f554f79950e2b0eb8911e", func := "goit/goitlaw16.CompactBounds", spec := "compactBounds", inPlace := ["maps.clone"], unfollowed := true, recurses := true, plainKeys := false, apart := false, narrowed := true }
def CompactBoundsUptoSaid : Prop := compactBoundsUptoRow.holds Tryz.pinned (OpenSpec.upto compactBoundsSpec)

/-- 'goitlaw16.CompactAgain', WHERE WHAT IT READS IS OF BULK AT MOST 1048576: true; the input reads as it did. -/
def compactAgainUptoRow : OpenClaim := { program := "ytogclkhpbjfadaagreat", sum := "9ecc43f1e5c533a535eedffe589308eb90c3a6c35f1f554f79950e2b0eb8911e", func := "goit/goitlaw16.CompactAgain", spec := "compactAgain", inPlace := ["maps.clone"], unfollowed := true, recurses := true, plainKeys := false, apart := false, narrowed := true }
def CompactAgainUptoSaid : Prop := compactAgainUptoRow.holds Tryz.pinned (OpenSpec.upto compactAgainSpec)

/-- 'goitlaw16.CompactBreaks', WHERE WHAT IT READS IS OF BULK AT MOST 1048576: true; the input reads as it did. -/
def compactBreaksUptoRow : OpenClaim := { program := "ytogclkhpbjfadaagreat", sum := "9ecc43f1e5c533a535eedffe589308eb90c3a6c35f1f554f79950e2b0eb8911e", func := "goit/goitlaw16.CompactBreaks", spec := "compactBreaks", inPlace := ["maps.clone"], unfollowed := true, recurses := true, plainKeys := false, apart := false, narrowed := true }
def CompactBreaksUptoSaid : Prop := compactBreaksUptoRow.holds Tryz.pinned (OpenSpec.upto compactBreaksSpec)

/-- 'goitlaw16.CompactKeeps', WHERE WHAT IT READS IS OF BULK AT MOST 1048576: true; the input reads as it did. -/
def compactKeepsUptoRow : OpenClaim := { program := "ytogclkhpbjfadaagreat", sum := "9ecc43f1e5c533a535eedffe589308eb90c3a6c35f1f554f79950e2b0eb8911e", func := "goit/goitlaw16.CompactKeeps", spec := "compactKeeps", inPlace := ["maps.clone"], unfollowed := true, recurses := true, plainKeys := false, apart := false, narrowed := true }
def CompactKeepsUptoSaid : Prop := compactKeepsUptoRow.holds Tryz.pinned (OpenSpec.upto compactKeepsSpec)

end Rows
end Go.Proofs.YtogclkhpbjfadaaGreat
