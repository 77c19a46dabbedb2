/-
  DERIVED. GIVEN WITH THE SEED: THE CARDS: each row of YtjjhdddiabdfhaaDoorRows.lean that lists a variable, with what it lists TIED to the program's text (the seventh form; the later family's looks); each row that meets fmt, with fmt's text TOLD by the authors' own Lean function (tested against real Go, not proved from fmt's source: count such statements apart). THE CARD IS WHAT COUNTS. Prove the row's statement (the work); the ties are given (YtjjhdddiabdfhaaDoorTie.lean); close each card by the builder's one call (the guide's Derived/Test/ToyasCard.lean, 'card_holds'). Laid BY PROGRAM, IN A SANDBOX (cutbox-door.mjs). By AI agents, Wed Nov 11 2026. No macro, syntax, notation, axiom, sorry.
-/
import Derived.Test.YtjjhdddiabdfhaaDoorRows
import GoSem.ClaimSeven
namespace Go.Proofs.YtjjhdddiabdfhaaDoor
namespace Rows

/-- THE TIED CARD OF 'gabionlaw03.NamesChecks'. -/
def namesChecksCard : Claim7 := { stood := { row := namesChecksRow, standIns := [], harness := (true, "6221eaad854145d1bdb845a4ff5d7aafc5d8bfce42b47305eb65228474d1aa64"), looks := false }, kinds := [], alts := [], laidByText := true, laidKinds := [.data, .pinned], laidTests := true, laidLooks := .later }
def NamesChecksCardSaid : Prop := Claim7.holds Tryd.pinned (.plain (OpenSpec.ofChange namesChecksSpec)) namesChecksCard

/-- THE TIED CARD OF 'gabionlaw03.NamesSplits'. -/
def namesSplitsCard : Claim7 := { stood := { row := namesSplitsRow, standIns := [], harness := (true, "6221eaad854145d1bdb845a4ff5d7aafc5d8bfce42b47305eb65228474d1aa64"), looks := false }, kinds := [], alts := [], laidByText := true, laidKinds := [.data, .pinned], laidTests := true, laidLooks := .later }
def NamesSplitsCardSaid : Prop := Claim7.holds Tryd.pinned (.plain (OpenSpec.ofChange namesSplitsSpec)) namesSplitsCard

/-- THE TIED CARD OF 'gabionlaw03.NamesSelves'. -/
def namesSelvesCard : Claim7 := { stood := { row := namesSelvesRow, standIns := [], harness := (true, "6221eaad854145d1bdb845a4ff5d7aafc5d8bfce42b47305eb65228474d1aa64"), looks := false }, kinds := [], alts := [], laidByText := true, laidKinds := [.data, .pinned], laidTests := true, laidLooks := .later }
def NamesSelvesCardSaid : Prop := Claim7.holds Tryd.pinned (.plain (OpenSpec.ofChange namesSelvesSpec)) namesSelvesCard

/-- THE TIED CARD OF 'gabionlaw03.NamesUps'. -/
def namesUpsCard : Claim7 := { stood := { row := namesUpsRow, standIns := [], harness := (true, "6221eaad854145d1bdb845a4ff5d7aafc5d8bfce42b47305eb65228474d1aa64"), looks := false }, kinds := [], alts := [], laidByText := true, laidKinds := [.data, .pinned], laidTests := true, laidLooks := .later }
def NamesUpsCardSaid : Prop := Claim7.holds Tryd.pinned (.plain (OpenSpec.ofChange namesUpsSpec)) namesUpsCard

/-- THE TIED CARD OF 'gabionlaw03.NamesLetters'. -/
def namesLettersCard : Claim7 := { stood := { row := namesLettersRow, standIns := [], harness := (true, "6221eaad854145d1bdb845a4ff5d7aafc5d8bfce42b47305eb65228474d1aa64"), looks := false }, kinds := [], alts := [], laidByText := true, laidKinds := [.data, .pinned], laidTests := true, laidLooks := .later }
def NamesLettersCardSaid : Prop := Claim7.holds Tryd.pinned (.plain (OpenSpec.ofChange namesLettersSpec)) namesLettersCard

/-- THE TIED CARD OF 'gabionlaw03.NamesWithin'. -/
def namesWithinCard : Claim7 := { stood := { row := namesWithinRow, standIns := [], harness := (true, "6221eaad854145d1bdb845a4ff5d7aafc5d8bfce42b47305eb65228474d1aa64"), looks := false }, kinds := [], alts := [], laidByText := true, laidKinds := [.data, .pinned], laidTests := true, laidLooks := .later }
def NamesWithinCardSaid : Prop := Claim7.holds Tryd.pinned (.plain (OpenSpec.ofChange namesWithinSpec)) namesWithinCard

/-- THE TIED CARD OF 'gabionlaw03.NamesOrders'. -/
def namesOrdersCard : Claim7 := { stood := { row := namesOrdersRow, standIns := [], harness := (true, "6221eaad854145d1bdb845a4ff5d7aafc5d8bfce42b47305eb65228474d1aa64"), looks := false }, kinds := [], alts := [], laidByText := true, laidKinds := [.data, .pinned], laidTests := true, laidLooks := .later }
def NamesOrdersCardSaid : Prop := Claim7.holds Tryd.pinned (.plain (OpenSpec.ofChange namesOrdersSpec)) namesOrdersCard

/-- THE TIED CARD OF 'gabionlaw03.NamesJoins'. -/
def namesJoinsCard : Claim7 := { stood := { row := namesJoinsRow, standIns := [], harness := (true, "6221eaad854145d1bdb845a4ff5d7aafc5d8bfce42b47305eb65228474d1aa64"), looks := false }, kinds := [], alts := [], laidByText := true, laidKinds := [.data, .pinned], laidTests := true, laidLooks := .later }
def NamesJoinsCardSaid : Prop := Claim7.holds Tryd.pinned (.plain (OpenSpec.ofChange namesJoinsSpec)) namesJoinsCard

/-- THE TIED CARD OF 'gabionlaw03.NamesAgain'. -/
def namesAgainCard : Claim7 := { stood := { row := namesAgainRow, standIns := [], harness := (true, "6221eaad854145d1bdb845a4ff5d7aafc5d8bfce42b47305eb65228474d1aa64"), looks := false }, kinds := [], alts := [], laidByText := true, laidKinds := [.data, .pinned], laidTests := true, laidLooks := .later }
def NamesAgainCardSaid : Prop := Claim7.holds Tryd.pinned (.plain (OpenSpec.ofChange namesAgainSpec)) namesAgainCard

/-- THE SECOND FORM's CARD OF 'gabionlaw03.NamesChecks'. -/
def namesChecksUptoCard : Claim7 := { stood := { row := namesChecksUptoRow, standIns := [], harness := (true, "6221eaad854145d1bdb845a4ff5d7aafc5d8bfce42b47305eb65228474d1aa64"), looks := false }, kinds := [], alts := [], laidByText := true, laidKinds := [.data, .pinned], laidTests := true, laidLooks := .later }
def NamesChecksUptoCardSaid : Prop := Claim7.holds Tryd.pinned (.plain (OpenSpec.upto namesChecksSpec)) namesChecksUptoCard

/-- THE SECOND FORM's CARD OF 'gabionlaw03.NamesSplits'. -/
def namesSplitsUptoCard : Claim7 := { stood := { row := namesSplitsUptoRow, standIns := [], harness := (true, "6221eaad854145d1bdb845a4ff5d7aafc5d8bfce42b47305eb65228474d1aa64"), looks := false }, kinds := [], alts := [], laidByText := true, laidKinds := [.data, .pinned], laidTests := true, laidLooks := .later }
def NamesSplitsUptoCardSaid : Prop := Claim7.holds Tryd.pinned (.plain (OpenSpec.upto namesSplitsSpec)) namesSplitsUptoCard

/-- THE SECOND FORM's CARD OF 'gabionlaw03.NamesSelves'. -/
def namesSelvesUptoCard : Claim7 := { stood := { row := namesSelvesUptoRow, standIns := [], harness := (true, "6221eaad854145d1bdb845a4ff5d7aafc5d8bfce42b47305eb65228474d1aa64"), looks := false }, kinds := [], alts := [], laidByText := true, laidKinds := [.data, .pinned], laidTests := true, laidLooks := .later }
def NamesSelvesUptoCardSaid : Prop := Claim7.holds Tryd.pinned (.plain (OpenSpec.upto namesSelvesSpec)) namesSelvesUptoCard

/-- THE SECOND FORM's CARD OF 'gabionlaw03.NamesUps'. -/
def namesUpsUptoCard : Claim7 := { stood := { row := namesUpsUptoRow, standIns := [], harness := (true, "6221eaad854145d1bdb845a4ff5d7aafc5d8bfce42b47305eb65228474d1aa64"), looks := false }, kinds := [], alts := [], laidByText := true, laidKinds := [.data, .pinned], laidTests := true, laidLooks := .later }
def NamesUpsUptoCardSaid : Prop := Claim7.holds Tryd.pinned (.plain (OpenSpec.upto namesUpsSpec)) namesUpsUptoCard

/-- THE SECOND FORM's CARD OF 'gabionlaw03.NamesLetters'. -/
def namesLettersUptoCard : Claim7 := { stood := { row := namesLettersUptoRow, standIns := [], harness := (true, "6221eaad854145d1bdb845a4ff5d7aafc5d8bfce42b47305eb65228474d1aa64"), looks := false }, kinds := [], alts := [], laidByText := true, laidKinds := [.data, .pinned], laidTests := true, laidLooks := .later }
def NamesLettersUptoCardSaid : Prop := Claim7.holds Tryd.pinned (.plain (OpenSpec.upto namesLettersSpec)) namesLettersUptoCard

/-- THE SECOND FORM's CARD OF 'gabionlaw03.NamesWithin'. -/
def namesWithinUptoCard : Claim7 := { stood := { row := namesWithinUptoRow, standIns := [], harness := (true, "6221eaad854145d1bdb845a4ff5d7aafc5d8bfce42b47305eb65228474d1aa64"), looks := false }, kinds := [], alts := [], laidByText := true, laidKinds := [.data, .pinned], laidTests := true, laidLooks := .later }
def NamesWithinUptoCardSaid : Prop := Claim7.holds Tryd.pinned (.plain (OpenSpec.upto namesWithinSpec)) namesWithinUptoCard

/-- THE SECOND FORM's CARD OF 'gabionlaw03.NamesOrders'. -/
def namesOrdersUptoCard : Claim7 := { stood := { row := namesOrdersUptoRow, standIns := [], harness := (true, "6221eaad854145d1bdb845a4ff5d7aafc5d8bfce42b47305eb65228474d1aa64"), looks := false }, kinds := [], alts := [], laidByText := true, laidKinds := [.data, .pinned], laidTests := true, laidLooks := .later }
def NamesOrdersUptoCardSaid : Prop := Claim7.holds Tryd.pinned (.plain (OpenSpec.upto namesOrdersSpec)) namesOrdersUptoCard

/-- THE SECOND FORM's CARD OF 'gabionlaw03.NamesJoins'. -/
def namesJoinsUptoCard : Claim7 := { stood := { row := namesJoinsUptoRow, standIns := [], harness := (true, "6221eaad854145d1bdb845a4ff5d7aafc5d8bfce42b47305eb65228474d1aa64"), looks := false }, kinds := [], alts := [], laidByText := true, laidKinds := [.data, .pinned], laidTests := true, laidLooks := .later }
def NamesJoinsUptoCardSaid : Prop := Claim7.holds Tryd.pinned (.plain (OpenSpec.upto namesJoinsSpec)) namesJoinsUptoCard

/-- THE SECOND FORM's CARD OF 'gabionlaw03.NamesAgain'. -/
def namesAgainUptoCard : Claim7 := { stood := { row := namesAgainUptoRow, standIns := [], harness := (true, "6221eaad854145d1bdb845a4ff5d7aafc5d8bfce42b47305eb65228474d1aa64"), looks := false }, kinds := [], alts := [], laidByText := true, laidKinds := [.data, .pinned], laidTests := true, laidLooks := .later }
def NamesAgainUptoCardSaid : Prop := Claim7.holds Tryd.pinned (.plain (OpenSpec.upto namesAgainSpec)) namesAgainUptoCard
end Rows
end Go.Proofs.YtjjhdddiabdfhaaDoor
