/-
  DERIVED. GIVEN WITH THE SEED: THE CARDS: each row of YtpekclmaikcehaaDoorRows.lean that lists a variable, with what it lists TIED to the program's text (the seventh form; the later family's looks); each row that meets fmt, with fmt's text TOLD by the authors' own Lean function (tested against real Go, not proved from fmt's source: count such statements apart). THE CARD IS WHAT COUNTS. Prove the row's statement (the work); the ties are given (YtpekclmaikcehaaDoorTie.lean); close each card by the builder's one call (the guide's Derived/Test/ToyasCard.lean, 'card_holds'). Laid BY PROGRAM, IN A SANDBOX (cutbox-door.mjs). By AI agents, Wed Nov 11 2026. No macro, syntax, notation, axiom, sorry.
-/
import Derived.Test.YtpekclmaikcehaaDoorRows
import GoSem.ClaimSeven
namespace Go.Proofs.YtpekclmaikcehaaDoor
namespace Rows

/-- THE TIED CARD OF 'laws.FnExactTempoText'. -/
def fnExactTempoTextCard : Claim7 := { stood := { row := fnExactTempoTextRow, standIns := [], harness := (true, "ebe9db296aba2819be3e147b0df991a2c5d1cd5e4e0d1e5a09a05799db29b476"), looks := true }, kinds := [], alts := [], laidByText := true, laidKinds := [.data, .data, .data], laidTests := true, laidLooks := .later }
def FnExactTempoTextCardSaid : Prop := Claim7.holds Tryd.pinned (.plain (OpenSpec.ofChange fnExactTempoTextSpec)) fnExactTempoTextCard

/-- THE TIED CARD OF 'laws.FnExactOnsetsText'. -/
def fnExactOnsetsTextCard : Claim7 := { stood := { row := fnExactOnsetsTextRow, standIns := [], harness := (true, "ebe9db296aba2819be3e147b0df991a2c5d1cd5e4e0d1e5a09a05799db29b476"), looks := true }, kinds := [], alts := [], laidByText := true, laidKinds := [.data, .data, .data], laidTests := true, laidLooks := .later }
def FnExactOnsetsTextCardSaid : Prop := Claim7.holds Tryd.pinned (.plain (OpenSpec.ofChange fnExactOnsetsTextSpec)) fnExactOnsetsTextCard

/-- THE TIED CARD OF 'laws.FnExactReadTempo'. -/
def fnExactReadTempoCard : Claim7 := { stood := { row := fnExactReadTempoRow, standIns := [], harness := (true, "ebe9db296aba2819be3e147b0df991a2c5d1cd5e4e0d1e5a09a05799db29b476"), looks := true }, kinds := [], alts := [], laidByText := true, laidKinds := [.data, .data, .data, .data, .sentinel, .sentinel, .pinned], laidTests := true, laidLooks := .later }
def FnExactReadTempoCardSaid : Prop := Claim7.holds Tryd.pinned (.plain (OpenSpec.ofChange fnExactReadTempoSpec)) fnExactReadTempoCard

/-- THE TIED CARD OF 'laws.FnExactReadOnsets'. -/
def fnExactReadOnsetsCard : Claim7 := { stood := { row := fnExactReadOnsetsRow, standIns := [], harness := (true, "ebe9db296aba2819be3e147b0df991a2c5d1cd5e4e0d1e5a09a05799db29b476"), looks := true }, kinds := [], alts := [], laidByText := true, laidKinds := [.data, .data, .data, .data, .sentinel, .sentinel, .pinned], laidTests := true, laidLooks := .later }
def FnExactReadOnsetsCardSaid : Prop := Claim7.holds Tryd.pinned (.plain (OpenSpec.ofChange fnExactReadOnsetsSpec)) fnExactReadOnsetsCard

/-- THE TIED CARD OF 'laws.FnTempo'. -/
def fnTempoCard : Claim7 := { stood := { row := fnTempoRow, standIns := [], harness := (true, "ebe9db296aba2819be3e147b0df991a2c5d1cd5e4e0d1e5a09a05799db29b476"), looks := true }, kinds := [], alts := [], laidByText := true, laidKinds := [.data, .data, .data, .data, .sentinel, .sentinel, .pinned], laidTests := true, laidLooks := .later }
def FnTempoCardSaid : Prop := Claim7.holds Tryd.pinned (.plain (OpenSpec.ofChange fnTempoSpec)) fnTempoCard

/-- THE SECOND FORM's CARD OF 'laws.FnExactTempoText'. -/
def fnExactTempoTextUptoCard : Claim7 := { stood := { row := fnExactTempoTextUptoRow, standIns := [], harness := (true, "ebe9db296aba2819be3e147b0df991a2c5d1cd5e4e0d1e5a09a05799db29b476"), looks := true }, kinds := [], alts := [], laidByText := true, laidKinds := [.data, .data, .data], laidTests := true, laidLooks := .later }
def FnExactTempoTextUptoCardSaid : Prop := Claim7.holds Tryd.pinned (.plain (OpenSpec.upto fnExactTempoTextSpec)) fnExactTempoTextUptoCard

/-- THE SECOND FORM's CARD OF 'laws.FnExactOnsetsText'. -/
def fnExactOnsetsTextUptoCard : Claim7 := { stood := { row := fnExactOnsetsTextUptoRow, standIns := [], harness := (true, "ebe9db296aba2819be3e147b0df991a2c5d1cd5e4e0d1e5a09a05799db29b476"), looks := true }, kinds := [], alts := [], laidByText := true, laidKinds := [.data, .data, .data], laidTests := true, laidLooks := .later }
def FnExactOnsetsTextUptoCardSaid : Prop := Claim7.holds Tryd.pinned (.plain (OpenSpec.upto fnExactOnsetsTextSpec)) fnExactOnsetsTextUptoCard

/-- THE SECOND FORM's CARD OF 'laws.FnExactReadTempo'. -/
def fnExactReadTempoUptoCard : Claim7 := { stood := { row := fnExactReadTempoUptoRow, standIns := [], harness := (true, "ebe9db296aba2819be3e147b0df991a2c5d1cd5e4e0d1e5a09a05799db29b476"), looks := true }, kinds := [], alts := [], laidByText := true, laidKinds := [.data, .data, .data, .data, .sentinel, .sentinel, .pinned], laidTests := true, laidLooks := .later }
def FnExactReadTempoUptoCardSaid : Prop := Claim7.holds Tryd.pinned (.plain (OpenSpec.upto fnExactReadTempoSpec)) fnExactReadTempoUptoCard

/-- THE SECOND FORM's CARD OF 'laws.FnExactReadOnsets'. -/
def fnExactReadOnsetsUptoCard : Claim7 := { stood := { row := fnExactReadOnsetsUptoRow, standIns := [], harness := (true, "ebe9db296aba2819be3e147b0df991a2c5d1cd5e4e0d1e5a09a05799db29b476"), looks := true }, kinds := [], alts := [], laidByText := true, laidKinds := [.data, .data, .data, .data, .sentinel, .sentinel, .pinned], laidTests := true, laidLooks := .later }
def FnExactReadOnsetsUptoCardSaid : Prop := Claim7.holds Tryd.pinned (.plain (OpenSpec.upto fnExactReadOnsetsSpec)) fnExactReadOnsetsUptoCard

/-- THE SECOND FORM's CARD OF 'laws.FnTempo'. -/
def fnTempoUptoCard : Claim7 := { stood := { row := fnTempoUptoRow, standIns := [], harness := (true, "ebe9db296aba2819be3e147b0df991a2c5d1cd5e4e0d1e5a09a05799db29b476"), looks := true }, kinds := [], alts := [], laidByText := true, laidKinds := [.data, .data, .data, .data, .sentinel, .sentinel, .pinned], laidTests := true, laidLooks := .later }
def FnTempoUptoCardSaid : Prop := Claim7.holds Tryd.pinned (.plain (OpenSpec.upto fnTempoSpec)) fnTempoUptoCard
end Rows
end Go.Proofs.YtpekclmaikcehaaDoor
