/-
  DERIVED. GIVEN WITH THE SEED: THE CARDS: each row of YtfhmkmbdfeoegaaDoorRows.lean that lists a variable, with what it lists TIED to the program's text (the seventh form; the later family's looks); each row that meets fmt, with fmt's text TOLD by the authors' own Lean function (tested against real Go, not proved from fmt's source: count such statements apart). THE CARD IS WHAT COUNTS. Prove the row's statement (the work); the ties are given (YtfhmkmbdfeoegaaDoorTie.lean); close each card by the builder's one call (the guide's Derived/Test/ToyasCard.lean, 'card_holds'). Laid BY PROGRAM, IN A SANDBOX (cutbox-door.mjs). By AI agents, Wed Nov 11 2026. No macro, syntax, notation, axiom, sorry.
-/
import Derived.Test.YtfhmkmbdfeoegaaDoorRows
import GoSem.ClaimSeven
namespace Go.Proofs.YtfhmkmbdfeoegaaDoor
namespace Rows

/-- THE TIED CARD OF 'hasplaw2.CapDead'. -/
def capDeadCard : Claim7 := { stood := { row := capDeadRow, standIns := [], harness := (true, "b9f2162f405eaa743684daafb8d267a2259797ed59e1ec13ff217781fa17fc45"), looks := false }, kinds := [], alts := [], laidByText := true, laidKinds := [.data, .data, .data], laidTests := true, laidLooks := .later }
def CapDeadCardSaid : Prop := Claim7.holds Tryd.pinned (.plain (OpenSpec.ofChange capDeadSpec)) capDeadCard

/-- THE TIED CARD OF 'hasplaw2.CapHas'. -/
def capHasCard : Claim7 := { stood := { row := capHasRow, standIns := [], harness := (true, "b9f2162f405eaa743684daafb8d267a2259797ed59e1ec13ff217781fa17fc45"), looks := false }, kinds := [], alts := [], laidByText := true, laidKinds := [.data, .data, .data], laidTests := true, laidLooks := .later }
def CapHasCardSaid : Prop := Claim7.holds Tryd.pinned (.plain (OpenSpec.ofChange capHasSpec)) capHasCard

/-- THE TIED CARD OF 'hasplaw2.CapDerive'. -/
def capDeriveCard : Claim7 := { stood := { row := capDeriveRow, standIns := [], harness := (true, "b9f2162f405eaa743684daafb8d267a2259797ed59e1ec13ff217781fa17fc45"), looks := false }, kinds := [], alts := [], laidByText := true, laidKinds := [.data, .data, .data], laidTests := true, laidLooks := .later }
def CapDeriveCardSaid : Prop := Claim7.holds Tryd.pinned (.plain (OpenSpec.ofChange capDeriveSpec)) capDeriveCard

/-- THE TIED CARD OF 'hasplaw2.CapSeals'. -/
def capSealsCard : Claim7 := { stood := { row := capSealsRow, standIns := [], harness := (true, "b9f2162f405eaa743684daafb8d267a2259797ed59e1ec13ff217781fa17fc45"), looks := false }, kinds := [], alts := [], laidByText := true, laidKinds := [.data, .data, .data], laidTests := true, laidLooks := .later }
def CapSealsCardSaid : Prop := Claim7.holds Tryd.pinned (.plain (OpenSpec.ofChange capSealsSpec)) capSealsCard

/-- THE TIED CARD OF 'hasplaw2.CapAsks'. -/
def capAsksCard : Claim7 := { stood := { row := capAsksRow, standIns := [], harness := (true, "b9f2162f405eaa743684daafb8d267a2259797ed59e1ec13ff217781fa17fc45"), looks := false }, kinds := [], alts := [], laidByText := true, laidKinds := [.data, .data, .data], laidTests := true, laidLooks := .later }
def CapAsksCardSaid : Prop := Claim7.holds Tryd.pinned (.plain (OpenSpec.ofChange capAsksSpec)) capAsksCard

/-- THE TIED CARD OF 'hasplaw2.CapLess'. -/
def capLessCard : Claim7 := { stood := { row := capLessRow, standIns := [], harness := (true, "b9f2162f405eaa743684daafb8d267a2259797ed59e1ec13ff217781fa17fc45"), looks := false }, kinds := [], alts := [], laidByText := true, laidKinds := [.data, .data, .data], laidTests := true, laidLooks := .later }
def CapLessCardSaid : Prop := Claim7.holds Tryd.pinned (.plain (OpenSpec.ofChange capLessSpec)) capLessCard

/-- THE TIED CARD OF 'hasplaw2.CapOrder'. -/
def capOrderCard : Claim7 := { stood := { row := capOrderRow, standIns := [], harness := (true, "b9f2162f405eaa743684daafb8d267a2259797ed59e1ec13ff217781fa17fc45"), looks := false }, kinds := [], alts := [], laidByText := true, laidKinds := [.data, .data, .data], laidTests := true, laidLooks := .later }
def CapOrderCardSaid : Prop := Claim7.holds Tryd.pinned (.plain (OpenSpec.ofChange capOrderSpec)) capOrderCard

/-- THE TIED CARD OF 'hasplaw2.CapClosed'. -/
def capClosedCard : Claim7 := { stood := { row := capClosedRow, standIns := [], harness := (true, "b9f2162f405eaa743684daafb8d267a2259797ed59e1ec13ff217781fa17fc45"), looks := false }, kinds := [], alts := [], laidByText := true, laidKinds := [.data, .data, .data], laidTests := true, laidLooks := .later }
def CapClosedCardSaid : Prop := Claim7.holds Tryd.pinned (.plain (OpenSpec.ofChange capClosedSpec)) capClosedCard

/-- THE TIED CARD OF 'hasplaw2.CapBounds'. -/
def capBoundsCard : Claim7 := { stood := { row := capBoundsRow, standIns := [], harness := (true, "b9f2162f405eaa743684daafb8d267a2259797ed59e1ec13ff217781fa17fc45"), looks := false }, kinds := [], alts := [], laidByText := true, laidKinds := [.data, .data, .data], laidTests := true, laidLooks := .later }
def CapBoundsCardSaid : Prop := Claim7.holds Tryd.pinned (.plain (OpenSpec.ofChange capBoundsSpec)) capBoundsCard

/-- THE TIED CARD OF 'hasplaw2.CapPerms'. -/
def capPermsCard : Claim7 := { stood := { row := capPermsRow, standIns := [], harness := (true, "b9f2162f405eaa743684daafb8d267a2259797ed59e1ec13ff217781fa17fc45"), looks := false }, kinds := [], alts := [], laidByText := true, laidKinds := [.data, .data, .data], laidTests := true, laidLooks := .later }
def CapPermsCardSaid : Prop := Claim7.holds Tryd.pinned (.plain (OpenSpec.ofChange capPermsSpec)) capPermsCard

/-- THE SECOND FORM's CARD OF 'hasplaw2.CapDead'. -/
def capDeadUptoCard : Claim7 := { stood := { row := capDeadUptoRow, standIns := [], harness := (true, "b9f2162f405eaa743684daafb8d267a2259797ed59e1ec13ff217781fa17fc45"), looks := false }, kinds := [], alts := [], laidByText := true, laidKinds := [.data, .data, .data], laidTests := true, laidLooks := .later }
def CapDeadUptoCardSaid : Prop := Claim7.holds Tryd.pinned (.plain (OpenSpec.upto capDeadSpec)) capDeadUptoCard

/-- THE SECOND FORM's CARD OF 'hasplaw2.CapHas'. -/
def capHasUptoCard : Claim7 := { stood := { row := capHasUptoRow, standIns := [], harness := (true, "b9f2162f405eaa743684daafb8d267a2259797ed59e1ec13ff217781fa17fc45"), looks := false }, kinds := [], alts := [], laidByText := true, laidKinds := [.data, .data, .data], laidTests := true, laidLooks := .later }
def CapHasUptoCardSaid : Prop := Claim7.holds Tryd.pinned (.plain (OpenSpec.upto capHasSpec)) capHasUptoCard

/-- THE SECOND FORM's CARD OF 'hasplaw2.CapDerive'. -/
def capDeriveUptoCard : Claim7 := { stood := { row := capDeriveUptoRow, standIns := [], harness := (true, "b9f2162f405eaa743684daafb8d267a2259797ed59e1ec13ff217781fa17fc45"), looks := false }, kinds := [], alts := [], laidByText := true, laidKinds := [.data, .data, .data], laidTests := true, laidLooks := .later }
def CapDeriveUptoCardSaid : Prop := Claim7.holds Tryd.pinned (.plain (OpenSpec.upto capDeriveSpec)) capDeriveUptoCard

/-- THE SECOND FORM's CARD OF 'hasplaw2.CapSeals'. -/
def capSealsUptoCard : Claim7 := { stood := { row := capSealsUptoRow, standIns := [], harness := (true, "b9f2162f405eaa743684daafb8d267a2259797ed59e1ec13ff217781fa17fc45"), looks := false }, kinds := [], alts := [], laidByText := true, laidKinds := [.data, .data, .data], laidTests := true, laidLooks := .later }
def CapSealsUptoCardSaid : Prop := Claim7.holds Tryd.pinned (.plain (OpenSpec.upto capSealsSpec)) capSealsUptoCard

/-- THE SECOND FORM's CARD OF 'hasplaw2.CapAsks'. -/
def capAsksUptoCard : Claim7 := { stood := { row := capAsksUptoRow, standIns := [], harness := (true, "b9f2162f405eaa743684daafb8d267a2259797ed59e1ec13ff217781fa17fc45"), looks := false }, kinds := [], alts := [], laidByText := true, laidKinds := [.data, .data, .data], laidTests := true, laidLooks := .later }
def CapAsksUptoCardSaid : Prop := Claim7.holds Tryd.pinned (.plain (OpenSpec.upto capAsksSpec)) capAsksUptoCard

/-- THE SECOND FORM's CARD OF 'hasplaw2.CapLess'. -/
def capLessUptoCard : Claim7 := { stood := { row := capLessUptoRow, standIns := [], harness := (true, "b9f2162f405eaa743684daafb8d267a2259797ed59e1ec13ff217781fa17fc45"), looks := false }, kinds := [], alts := [], laidByText := true, laidKinds := [.data, .data, .data], laidTests := true, laidLooks := .later }
def CapLessUptoCardSaid : Prop := Claim7.holds Tryd.pinned (.plain (OpenSpec.upto capLessSpec)) capLessUptoCard

/-- THE SECOND FORM's CARD OF 'hasplaw2.CapOrder'. -/
def capOrderUptoCard : Claim7 := { stood := { row := capOrderUptoRow, standIns := [], harness := (true, "b9f2162f405eaa743684daafb8d267a2259797ed59e1ec13ff217781fa17fc45"), looks := false }, kinds := [], alts := [], laidByText := true, laidKinds := [.data, .data, .data], laidTests := true, laidLooks := .later }
def CapOrderUptoCardSaid : Prop := Claim7.holds Tryd.pinned (.plain (OpenSpec.upto capOrderSpec)) capOrderUptoCard

/-- THE SECOND FORM's CARD OF 'hasplaw2.CapClosed'. -/
def capClosedUptoCard : Claim7 := { stood := { row := capClosedUptoRow, standIns := [], harness := (true, "b9f2162f405eaa743684daafb8d267a2259797ed59e1ec13ff217781fa17fc45"), looks := false }, kinds := [], alts := [], laidByText := true, laidKinds := [.data, .data, .data], laidTests := true, laidLooks := .later }
def CapClosedUptoCardSaid : Prop := Claim7.holds Tryd.pinned (.plain (OpenSpec.upto capClosedSpec)) capClosedUptoCard

/-- THE SECOND FORM's CARD OF 'hasplaw2.CapBounds'. -/
def capBoundsUptoCard : Claim7 := { stood := { row := capBoundsUptoRow, standIns := [], harness := (true, "b9f2162f405eaa743684daafb8d267a2259797ed59e1ec13ff217781fa17fc45"), looks := false }, kinds := [], alts := [], laidByText := true, laidKinds := [.data, .data, .data], laidTests := true, laidLooks := .later }
def CapBoundsUptoCardSaid : Prop := Claim7.holds Tryd.pinned (.plain (OpenSpec.upto capBoundsSpec)) capBoundsUptoCard

/-- THE SECOND FORM's CARD OF 'hasplaw2.CapPerms'. -/
def capPermsUptoCard : Claim7 := { stood := { row := capPermsUptoRow, standIns := [], harness := (true, "b9f2162f405eaa743684daafb8d267a2259797ed59e1ec13ff217781fa17fc45"), looks := false }, kinds := [], alts := [], laidByText := true, laidKinds := [.data, .data, .data], laidTests := true, laidLooks := .later }
def CapPermsUptoCardSaid : Prop := Claim7.holds Tryd.pinned (.plain (OpenSpec.upto capPermsSpec)) capPermsUptoCard
end Rows
end Go.Proofs.YtfhmkmbdfeoegaaDoor
