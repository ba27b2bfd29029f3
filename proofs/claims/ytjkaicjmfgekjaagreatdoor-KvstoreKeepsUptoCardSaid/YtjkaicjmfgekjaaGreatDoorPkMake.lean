/-
  Make
-/
import Derived.Test.YtjkaicjmfgekjaaGreatDoorPkMore
import Derived.Laws.MakeOwn
set_option linter.all false
namespace Go.Proofs.YtjkaicjmfgekjaaGreatDoor
section
variable {P :Program}{f:FuncId}{n:FN}{R:Ending->World->Prop}{k:List Item}{ρ:A8}{w:World}
variable {dst :Option Nat}{ty:TypeId}{pos:String}{af:Array Edge}{α:Type}[Enc α]{K:A8->World->Prop}
end
end Go.Proofs.YtjkaicjmfgekjaaGreatDoor
