/- SorterNil's card. -/
import Derived.Test.YtjgmkimekipgmaaGreatDoorAl
import Derived.Test.YtjgmkimekipgmaaGreatDoorRn
namespace Go.Proofs.YtjgmkimekipgmaaGreatDoor
theorem sorterNil_card_holds : Rows.SorterNilCardSaid := SorterNil.card (SorterNil.holds G.sorterNil_walk)
#print axioms sorterNil_card_holds
end Go.Proofs.YtjgmkimekipgmaaGreatDoor
