/-
  Make
-/
import Derived.Test.YtjkaicjmfgekjaaGreatDoorPcMore
import Derived.Laws.MakeOwn
set_option linter.all false
namespace Go.Proofs.YtjkaicjmfgekjaaGreatDoor
section
variable {P :Program}{f:FuncId}{n:FN}{R:Ending->World->Prop}{k:List Item}{ρ:Bd}{w:World}
variable {dst :Option Nat}{ty:TypeId}{pos:String}{af:Array Edge}{α:Type}[Enc α]{K:Bd->World->Prop}
end
end Go.Proofs.YtjkaicjmfgekjaaGreatDoor
