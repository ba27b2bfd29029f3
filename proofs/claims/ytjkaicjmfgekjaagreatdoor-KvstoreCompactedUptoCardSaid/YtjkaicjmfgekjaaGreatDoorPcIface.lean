/-
  Iface
-/
import Derived.Test.YtjkaicjmfgekjaaGreatDoorPcLoop
set_option linter.all false
namespace Go.Proofs.YtjkaicjmfgekjaaGreatDoor
section
variable {P :Program}{n:FN}{ρ:Bd}{w:World}{dst:Option Nat}{ty:TypeId}{pos:String}{af:Array Edge}{g:Option (Nat×Bool)}
end
section
variable {P :Program}{f:FuncId}{n:FN}{R:Ending->World->Prop}{k:List Item}{ρ:Bd}{w:World}
variable {dst :Option Nat}{ty:TypeId}{pos:String}{af:Array Edge}{K:Bd->World->Prop}
end
end Go.Proofs.YtjkaicjmfgekjaaGreatDoor
