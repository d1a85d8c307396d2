/-
  No cell of these rows narrows 'for every input' (looked for: loops, veiled, ifaces, maps, wideKeys, modest, calm, conditions, laid).
  DERIVED. THE GIVEN ROWS OF THIS SEAT. 12 by the template 'for every input the law returns true; each argument reads behind the call as it read before'; 0 by the template 'total and deterministic' (their statements: YtbbaonaahokidaaTotals.lean).
  GIVEN WITH THE SEED: the statements are not yours to turn. If you find one false, say at which input.
  Laid BY PROGRAM, IN A SANDBOX (cutbox-rows.mjs): the forced cells as the released guide's own fill.sh prints them over the translation 6eb26d355157b4d9… (all of the seat's roots in one cut). By AI agents, Wed Nov 11 2026. No macro, syntax, notation, axiom, sorry.
-/
import Derived.Test.YtbbaonaahokidaaChecked
import GoSem.Claim
import GoSem.ClaimJoined
import GoSem.ClaimMapViews
import Derived.JoinedTies
import Derived.KernelRfl
namespace Go.Proofs.Ytbbaonaahokidaa
/- THE CELL 'sum', in the pinned program and in every row, IS THE sha256 OF THE DUMP (.gsa) THAT YtbbaonaahokidaaProg.lean LOADS. Nothing in Lean hashes anything: it is a label: what it is worth is what the hold of that sum in a sandbox is worth. -/
noncomputable def Try.pinned : Pinned := { name := "ytbbaonaahokidaa", sum := "6eb26d355157b4d9442d5c562f9f37adf7a22235ee039cc5bae2e3c44fdd0e2a", checked := Try.checked }
namespace Rows
def none {H : Type} : Left H := { results := [], args := [] }

/-- 'cablewaylaw04.FreePlays': WHATEVER THE INPUT: true; the input reads as it did. -/
def freePlaysSpec : ChangeSpec := { name := "freePlays", fn := fun _ => fun
  | [d1, d2] => { results := [.lit (.bool true)], args := [d1, d2] }
  | _ => none }
def freePlaysRow : OpenClaim := { program := "ytbbaonaahokidaa", sum := "6eb26d355157b4d9442d5c562f9f37adf7a22235ee039cc5bae2e3c44fdd0e2a", func := "cableway/cablewaylaw04.FreePlays", spec := "freePlays", plainKeys := false, apart := false }
def FreePlaysSaid : Prop := freePlaysRow.holds Try.pinned (OpenSpec.ofChange freePlaysSpec)

/-- ITS FALSE NEIGHBOUR: 'it returns false'. Refute it at one input. -/
def freePlaysWrong : ChangeSpec := { name := "freePlays", fn := fun _ => fun
  | [d1, d2] => { results := [.lit (.bool false)], args := [d1, d2] }
  | _ => none }
def FreePlaysWrongFalsely : Prop := freePlaysRow.holds Try.pinned (OpenSpec.ofChange freePlaysWrong)

/-- 'cablewaylaw04.FreeSizes': WHATEVER THE INPUT: true; the input reads as it did. -/
def freeSizesSpec : ChangeSpec := { name := "freeSizes", fn := fun _ => fun
  | [d1, d2] => { results := [.lit (.bool true)], args := [d1, d2] }
  | _ => none }
def freeSizesRow : OpenClaim := { program := "ytbbaonaahokidaa", sum := "6eb26d355157b4d9442d5c562f9f37adf7a22235ee039cc5bae2e3c44fdd0e2a", func := "cableway/cablewaylaw04.FreeSizes", spec := "freeSizes", plainKeys := false, apart := false }
def FreeSizesSaid : Prop := freeSizesRow.holds Try.pinned (OpenSpec.ofChange freeSizesSpec)

/-- ITS FALSE NEIGHBOUR: 'it returns false'. Refute it at one input. -/
def freeSizesWrong : ChangeSpec := { name := "freeSizes", fn := fun _ => fun
  | [d1, d2] => { results := [.lit (.bool false)], args := [d1, d2] }
  | _ => none }
def FreeSizesWrongFalsely : Prop := freeSizesRow.holds Try.pinned (OpenSpec.ofChange freeSizesWrong)

/-- 'cablewaylaw16.WindowPlays': WHATEVER THE INPUT: true; the input reads as it did. -/
def windowPlaysSpec : ChangeSpec := { name := "windowPlays", fn := fun _ => fun
  | [d1, d2, d3] => { results := [.lit (.bool true)], args := [d1, d2, d3] }
  | _ => none }
def windowPlaysRow : OpenClaim := { program := "ytbbaonaahokidaa", sum := "6eb26d355157b4d9442d5c562f9f37adf7a22235ee039cc5bae2e3c44fdd0e2a", func := "cableway/cablewaylaw16.WindowPlays", spec := "windowPlays", plainKeys := false, apart := false }
def WindowPlaysSaid : Prop := windowPlaysRow.holds Try.pinned (OpenSpec.ofChange windowPlaysSpec)

/-- ITS FALSE NEIGHBOUR: 'it returns false'. Refute it at one input. -/
def windowPlaysWrong : ChangeSpec := { name := "windowPlays", fn := fun _ => fun
  | [d1, d2, d3] => { results := [.lit (.bool false)], args := [d1, d2, d3] }
  | _ => none }
def WindowPlaysWrongFalsely : Prop := windowPlaysRow.holds Try.pinned (OpenSpec.ofChange windowPlaysWrong)

/-- 'cablewaylaw16.WindowRaw': WHATEVER THE INPUT: true; the input reads as it did. -/
def windowRawSpec : ChangeSpec := { name := "windowRaw", fn := fun _ => fun
  | [d1, d2, d3] => { results := [.lit (.bool true)], args := [d1, d2, d3] }
  | _ => none }
def windowRawRow : OpenClaim := { program := "ytbbaonaahokidaa", sum := "6eb26d355157b4d9442d5c562f9f37adf7a22235ee039cc5bae2e3c44fdd0e2a", func := "cableway/cablewaylaw16.WindowRaw", spec := "windowRaw", plainKeys := false, apart := false }
def WindowRawSaid : Prop := windowRawRow.holds Try.pinned (OpenSpec.ofChange windowRawSpec)

/-- ITS FALSE NEIGHBOUR: 'it returns false'. Refute it at one input. -/
def windowRawWrong : ChangeSpec := { name := "windowRaw", fn := fun _ => fun
  | [d1, d2, d3] => { results := [.lit (.bool false)], args := [d1, d2, d3] }
  | _ => none }
def WindowRawWrongFalsely : Prop := windowRawRow.holds Try.pinned (OpenSpec.ofChange windowRawWrong)

/-- 'cablewaylaw15.BudgetPlays': WHATEVER THE INPUT: true; the input reads as it did. -/
def budgetPlaysSpec : ChangeSpec := { name := "budgetPlays", fn := fun _ => fun
  | [d1, d2, d3] => { results := [.lit (.bool true)], args := [d1, d2, d3] }
  | _ => none }
def budgetPlaysRow : OpenClaim := { program := "ytbbaonaahokidaa", sum := "6eb26d355157b4d9442d5c562f9f37adf7a22235ee039cc5bae2e3c44fdd0e2a", func := "cableway/cablewaylaw15.BudgetPlays", spec := "budgetPlays", plainKeys := false, apart := false }
def BudgetPlaysSaid : Prop := budgetPlaysRow.holds Try.pinned (OpenSpec.ofChange budgetPlaysSpec)

/-- ITS FALSE NEIGHBOUR: 'it returns false'. Refute it at one input. -/
def budgetPlaysWrong : ChangeSpec := { name := "budgetPlays", fn := fun _ => fun
  | [d1, d2, d3] => { results := [.lit (.bool false)], args := [d1, d2, d3] }
  | _ => none }
def BudgetPlaysWrongFalsely : Prop := budgetPlaysRow.holds Try.pinned (OpenSpec.ofChange budgetPlaysWrong)

/-- 'cablewaylaw15.BudgetWaits': WHATEVER THE INPUT: true; the input reads as it did. -/
def budgetWaitsSpec : ChangeSpec := { name := "budgetWaits", fn := fun _ => fun
  | [d1, d2] => { results := [.lit (.bool true)], args := [d1, d2] }
  | _ => none }
def budgetWaitsRow : OpenClaim := { program := "ytbbaonaahokidaa", sum := "6eb26d355157b4d9442d5c562f9f37adf7a22235ee039cc5bae2e3c44fdd0e2a", func := "cableway/cablewaylaw15.BudgetWaits", spec := "budgetWaits", plainKeys := false, apart := false }
def BudgetWaitsSaid : Prop := budgetWaitsRow.holds Try.pinned (OpenSpec.ofChange budgetWaitsSpec)

/-- ITS FALSE NEIGHBOUR: 'it returns false'. Refute it at one input. -/
def budgetWaitsWrong : ChangeSpec := { name := "budgetWaits", fn := fun _ => fun
  | [d1, d2] => { results := [.lit (.bool false)], args := [d1, d2] }
  | _ => none }
def BudgetWaitsWrongFalsely : Prop := budgetWaitsRow.holds Try.pinned (OpenSpec.ofChange budgetWaitsWrong)

/-- 'cablewaylaw17.BreakerCalm': WHATEVER THE INPUT: true; the input reads as it did. -/
def breakerCalmSpec : ChangeSpec := { name := "breakerCalm", fn := fun _ => fun
  | [d1, d2, d3] => { results := [.lit (.bool true)], args := [d1, d2, d3] }
  | _ => none }
def breakerCalmRow : OpenClaim := { program := "ytbbaonaahokidaa", sum := "6eb26d355157b4d9442d5c562f9f37adf7a22235ee039cc5bae2e3c44fdd0e2a", func := "cableway/cablewaylaw17.BreakerCalm", spec := "breakerCalm", plainKeys := false, apart := false }
def BreakerCalmSaid : Prop := breakerCalmRow.holds Try.pinned (OpenSpec.ofChange breakerCalmSpec)

/-- ITS FALSE NEIGHBOUR: 'it returns false'. Refute it at one input. -/
def breakerCalmWrong : ChangeSpec := { name := "breakerCalm", fn := fun _ => fun
  | [d1, d2, d3] => { results := [.lit (.bool false)], args := [d1, d2, d3] }
  | _ => none }
def BreakerCalmWrongFalsely : Prop := breakerCalmRow.holds Try.pinned (OpenSpec.ofChange breakerCalmWrong)

/-- 'cablewaylaw17.BreakerHeals': WHATEVER THE INPUT: true; the input reads as it did. -/
def breakerHealsSpec : ChangeSpec := { name := "breakerHeals", fn := fun _ => fun
  | [d1, d2] => { results := [.lit (.bool true)], args := [d1, d2] }
  | _ => none }
def breakerHealsRow : OpenClaim := { program := "ytbbaonaahokidaa", sum := "6eb26d355157b4d9442d5c562f9f37adf7a22235ee039cc5bae2e3c44fdd0e2a", func := "cableway/cablewaylaw17.BreakerHeals", spec := "breakerHeals", plainKeys := false, apart := false }
def BreakerHealsSaid : Prop := breakerHealsRow.holds Try.pinned (OpenSpec.ofChange breakerHealsSpec)

/-- ITS FALSE NEIGHBOUR: 'it returns false'. Refute it at one input. -/
def breakerHealsWrong : ChangeSpec := { name := "breakerHeals", fn := fun _ => fun
  | [d1, d2] => { results := [.lit (.bool false)], args := [d1, d2] }
  | _ => none }
def BreakerHealsWrongFalsely : Prop := breakerHealsRow.holds Try.pinned (OpenSpec.ofChange breakerHealsWrong)

/-- 'cablewaylaw52.PaceBands': WHATEVER THE INPUT: true; the input reads as it did. -/
def paceBandsSpec : ChangeSpec := { name := "paceBands", fn := fun _ => fun
  | [d1, d2] => { results := [.lit (.bool true)], args := [d1, d2] }
  | _ => none }
def paceBandsRow : OpenClaim := { program := "ytbbaonaahokidaa", sum := "6eb26d355157b4d9442d5c562f9f37adf7a22235ee039cc5bae2e3c44fdd0e2a", func := "cableway/cablewaylaw52.PaceBands", spec := "paceBands", plainKeys := false, apart := false }
def PaceBandsSaid : Prop := paceBandsRow.holds Try.pinned (OpenSpec.ofChange paceBandsSpec)

/-- ITS FALSE NEIGHBOUR: 'it returns false'. Refute it at one input. -/
def paceBandsWrong : ChangeSpec := { name := "paceBands", fn := fun _ => fun
  | [d1, d2] => { results := [.lit (.bool false)], args := [d1, d2] }
  | _ => none }
def PaceBandsWrongFalsely : Prop := paceBandsRow.holds Try.pinned (OpenSpec.ofChange paceBandsWrong)

/-- 'cablewaylaw52.PaceCounts': WHATEVER THE INPUT: true; the input reads as it did. -/
def paceCountsSpec : ChangeSpec := { name := "paceCounts", fn := fun _ => fun
  | [d1, d2] => { results := [.lit (.bool true)], args := [d1, d2] }
  | _ => none }
def paceCountsRow : OpenClaim := { program := "ytbbaonaahokidaa", sum := "6eb26d355157b4d9442d5c562f9f37adf7a22235ee039cc5bae2e3c44fdd0e2a", func := "cableway/cablewaylaw52.PaceCounts", spec := "paceCounts", plainKeys := false, apart := false }
def PaceCountsSaid : Prop := paceCountsRow.holds Try.pinned (OpenSpec.ofChange paceCountsSpec)

/-- ITS FALSE NEIGHBOUR: 'it returns false'. Refute it at one input. -/
def paceCountsWrong : ChangeSpec := { name := "paceCounts", fn := fun _ => fun
  | [d1, d2] => { results := [.lit (.bool false)], args := [d1, d2] }
  | _ => none }
def PaceCountsWrongFalsely : Prop := paceCountsRow.holds Try.pinned (OpenSpec.ofChange paceCountsWrong)

/-- 'cablewaylaw52.PaceCalls': WHATEVER THE INPUT: true; the input reads as it did. -/
def paceCallsSpec : ChangeSpec := { name := "paceCalls", fn := fun _ => fun
  | [d1, d2] => { results := [.lit (.bool true)], args := [d1, d2] }
  | _ => none }
def paceCallsRow : OpenClaim := { program := "ytbbaonaahokidaa", sum := "6eb26d355157b4d9442d5c562f9f37adf7a22235ee039cc5bae2e3c44fdd0e2a", func := "cableway/cablewaylaw52.PaceCalls", spec := "paceCalls", plainKeys := false, apart := false }
def PaceCallsSaid : Prop := paceCallsRow.holds Try.pinned (OpenSpec.ofChange paceCallsSpec)

/-- ITS FALSE NEIGHBOUR: 'it returns false'. Refute it at one input. -/
def paceCallsWrong : ChangeSpec := { name := "paceCalls", fn := fun _ => fun
  | [d1, d2] => { results := [.lit (.bool false)], args := [d1, d2] }
  | _ => none }
def PaceCallsWrongFalsely : Prop := paceCallsRow.holds Try.pinned (OpenSpec.ofChange paceCallsWrong)

/-- 'cablewaylaw24.RouteOrder': WHATEVER THE INPUT: true; the input reads as it did. -/
def routeOrderSpec : ChangeSpec := { name := "routeOrder", fn := fun _ => fun
  | [d1, d2] => { results := [.lit (.bool true)], args := [d1, d2] }
  | _ => none }
def routeOrderRow : OpenClaim := { program := "ytbbaonaahokidaa", sum := "6eb26d355157b4d9442d5c562f9f37adf7a22235ee039cc5bae2e3c44fdd0e2a", func := "cableway/cablewaylaw24.RouteOrder", spec := "routeOrder", unfollowed := true, recurses := true, plainKeys := false, apart := false }
def RouteOrderSaid : Prop := routeOrderRow.holds Try.pinned (OpenSpec.ofChange routeOrderSpec)

/-- ITS FALSE NEIGHBOUR: 'it returns false'. Refute it at one input. -/
def routeOrderWrong : ChangeSpec := { name := "routeOrder", fn := fun _ => fun
  | [d1, d2] => { results := [.lit (.bool false)], args := [d1, d2] }
  | _ => none }
def RouteOrderWrongFalsely : Prop := routeOrderRow.holds Try.pinned (OpenSpec.ofChange routeOrderWrong)

/- THE SECOND FORM. 'bulk': how many values and letters a reading holds, each counted each time it is reached (what is shared counts as often as it is met; a slice's spare places count too). A statement '..UptoSaid' is the law's where the arguments, and the package variables that the reading takes, are together of bulk at most 1048576: NARROWER than '..Said'. Prove '..Said' where nothing that the law and all that it calls make is longer than what came in: it says more and counts as full. Else prove '..UptoSaid'. A law counts once. -/
mutual
def uptoBulk {H : Type} : DataW H → Nat
  | .lit (.string bytes) => bytes.length + 1
  | .lit _ => 1
  | .nil => 1
  | .ptr d => uptoBulk d + 1
  | .slice elems spare => uptoBulkAll elems + uptoBulkAll spare + 1
  | .agg parts => uptoBulkAll parts + 1
  | .iface _ d => uptoBulk d + 1
  | .map entries => uptoBulkEntries entries + 1
  | .held _ => 1
def uptoBulkAll {H : Type} : List (DataW H) → Nat
  | [] => 0
  | d :: r => uptoBulk d + uptoBulkAll r
def uptoBulkEntries {H : Type} : List (Lit × DataW H) → Nat
  | [] => 0
  | x :: r => uptoBulkEntry x + uptoBulkEntries r
def uptoBulkEntry {H : Type} : Lit × DataW H → Nat
  | (.string bytes, d) => bytes.length + uptoBulk d + 1
  | (_, d) => uptoBulk d + 1
 end
def uptoSmall : (H : Type) → List (DataW H) → Bool := fun _ ds => decide (uptoBulkAll ds ≤ 1048576)
def OpenSpec.upto (s : _root_.Go.ChangeSpec) : _root_.Go.OpenSpec := { _root_.Go.OpenSpec.ofChange s with cond := some uptoSmall }

/-- 'cablewaylaw04.FreePlays', WHERE WHAT IT READS IS OF BULK AT MOST 1048576: true; the input reads as it did. -/
def freePlaysUptoRow : OpenClaim := { program := "ytbbaonaahokidaa", sum := "6eb26d355157b4d9442d5c562f9f37adf7a22235ee039cc5bae2e3c44fdd0e2a", func := "cableway/cablewaylaw04.FreePlays", spec := "freePlays", plainKeys := false, apart := false, narrowed := true }
def FreePlaysUptoSaid : Prop := freePlaysUptoRow.holds Try.pinned (OpenSpec.upto freePlaysSpec)

/-- 'cablewaylaw04.FreeSizes', WHERE WHAT IT READS IS OF BULK AT MOST 1048576: true; the input reads as it did. -/
def freeSizesUptoRow : OpenClaim := { program := "ytbbaonaahokidaa", sum := "6eb26d355157b4d9442d5c562f9f37adf7a22235ee039cc5bae2e3c44fdd0e2a", func := "cableway/cablewaylaw04.FreeSizes", spec := "freeSizes", plainKeys := false, apart := false, narrowed := true }
def FreeSizesUptoSaid : Prop := freeSizesUptoRow.holds Try.pinned (OpenSpec.upto freeSizesSpec)

/-- 'cablewaylaw16.WindowPlays', WHERE WHAT IT READS IS OF BULK AT MOST 1048576: true; the input reads as it did. -/
def windowPlaysUptoRow : OpenClaim := { program := "ytbbaonaahokidaa", sum := "6eb26d355157b4d9442d5c562f9f37adf7a22235ee039cc5bae2e3c44fdd0e2a", func := "cableway/cablewaylaw16.WindowPlays", spec := "windowPlays", plainKeys := false, apart := false, narrowed := true }
def WindowPlaysUptoSaid : Prop := windowPlaysUptoRow.holds Try.pinned (OpenSpec.upto windowPlaysSpec)

/-- 'cablewaylaw16.WindowRaw', WHERE WHAT IT READS IS OF BULK AT MOST 1048576: true; the input reads as it did. -/
def windowRawUptoRow : OpenClaim := { program := "ytbbaonaahokidaa", sum := "6eb26d355157b4d9442d5c562f9f37adf7a22235ee039cc5bae2e3c44fdd0e2a", func := "cableway/cablewaylaw16.WindowRaw", spec := "windowRaw", plainKeys := false, apart := false, narrowed := true }
def WindowRawUptoSaid : Prop := windowRawUptoRow.holds Try.pinned (OpenSpec.upto windowRawSpec)

/-- 'cablewaylaw15.BudgetPlays', WHERE WHAT IT READS IS OF BULK AT MOST 1048576: true; the input reads as it did. -/
def budgetPlaysUptoRow : OpenClaim := { program := "ytbbaonaahokidaa", sum := "6eb26d355157b4d9442d5c562f9f37adf7a22235ee039cc5bae2e3c44fdd0e2a", func := "cableway/cablewaylaw15.BudgetPlays", spec := "budgetPlays", plainKeys := false, apart := false, narrowed := true }
def BudgetPlaysUptoSaid : Prop := budgetPlaysUptoRow.holds Try.pinned (OpenSpec.upto budgetPlaysSpec)

/-- 'cablewaylaw15.BudgetWaits', WHERE WHAT IT READS IS OF BULK AT MOST 1048576: true; the input reads as it did. -/
def budgetWaitsUptoRow : OpenClaim := { program := "ytbbaonaahokidaa", sum := "6eb26d355157b4d9442d5c562f9f37adf7a22235ee039cc5bae2e3c44fdd0e2a", func := "cableway/cablewaylaw15.BudgetWaits", spec := "budgetWaits", plainKeys := false, apart := false, narrowed := true }
def BudgetWaitsUptoSaid : Prop := budgetWaitsUptoRow.holds Try.pinned (OpenSpec.upto budgetWaitsSpec)

/-- 'cablewaylaw17.BreakerCalm', WHERE WHAT IT READS IS OF BULK AT MOST 1048576: true; the input reads as it did. -/
def breakerCalmUptoRow : OpenClaim := { program := "ytbbaonaahokidaa", sum := "6eb26d355157b4d9442d5c562f9f37adf7a22235ee039cc5bae2e3c44fdd0e2a", func := "cableway/cablewaylaw17.BreakerCalm", spec := "breakerCalm", plainKeys := false, apart := false, narrowed := true }
def BreakerCalmUptoSaid : Prop := breakerCalmUptoRow.holds Try.pinned (OpenSpec.upto breakerCalmSpec)

/-- 'cablewaylaw17.BreakerHeals', WHERE WHAT IT READS IS OF BULK AT MOST 1048576: true; the input reads as it did. -/
def breakerHealsUptoRow : OpenClaim := { program := "ytbbaonaahokidaa", sum := "6eb26d355157b4d9442d5c562f9f37adf7a22235ee039cc5bae2e3c44fdd0e2a", func := "cableway/cablewaylaw17.BreakerHeals", spec := "breakerHeals", plainKeys := false, apart := false, narrowed := true }
def BreakerHealsUptoSaid : Prop := breakerHealsUptoRow.holds Try.pinned (OpenSpec.upto breakerHealsSpec)

/-- 'cablewaylaw52.PaceBands', WHERE WHAT IT READS IS OF BULK AT MOST 1048576: true; the input reads as it did. -/
def paceBandsUptoRow : OpenClaim := { program := "ytbbaonaahokidaa", sum := "6eb26d355157b4d9442d5c562f9f37adf7a22235ee039cc5bae2e3c44fdd0e2a", func := "cableway/cablewaylaw52.PaceBands", spec := "paceBands", plainKeys := false, apart := false, narrowed := true }
def PaceBandsUptoSaid : Prop := paceBandsUptoRow.holds Try.pinned (OpenSpec.upto paceBandsSpec)

/-- 'cablewaylaw52.PaceCounts', WHERE WHAT IT READS IS OF BULK AT MOST 1048576: true; the input reads as it did. -/
def paceCountsUptoRow : OpenClaim := { program := "ytbbaonaahokidaa", sum := "6eb26d355157b4d9442d5c562f9f37adf7a22235ee039cc5bae2e3c44fdd0e2a", func := "cableway/cablewaylaw52.PaceCounts", spec := "paceCounts", plainKeys := false, apart := false, narrowed := true }
def PaceCountsUptoSaid : Prop := paceCountsUptoRow.holds Try.pinned (OpenSpec.upto paceCountsSpec)

/-- 'cablewaylaw52.PaceCalls', WHERE WHAT IT READS IS OF BULK AT MOST 1048576: true; the input reads as it did. -/
def paceCallsUptoRow : OpenClaim := { program := "ytbbaonaahokidaa", sum := "6eb26d355157b4d9442d5c562f9f37adf7a22235ee039cc5bae2e3c44fdd0e2a", func := "cableway/cablewaylaw52.PaceCalls", spec := "paceCalls", plainKeys := false, apart := false, narrowed := true }
def PaceCallsUptoSaid : Prop := paceCallsUptoRow.holds Try.pinned (OpenSpec.upto paceCallsSpec)

/-- 'cablewaylaw24.RouteOrder', WHERE WHAT IT READS IS OF BULK AT MOST 1048576: true; the input reads as it did. -/
def routeOrderUptoRow : OpenClaim := { program := "ytbbaonaahokidaa", sum := "6eb26d355157b4d9442d5c562f9f37adf7a22235ee039cc5bae2e3c44fdd0e2a", func := "cableway/cablewaylaw24.RouteOrder", spec := "routeOrder", unfollowed := true, recurses := true, plainKeys := false, apart := false, narrowed := true }
def RouteOrderUptoSaid : Prop := routeOrderUptoRow.holds Try.pinned (OpenSpec.upto routeOrderSpec)

end Rows
end Go.Proofs.Ytbbaonaahokidaa
