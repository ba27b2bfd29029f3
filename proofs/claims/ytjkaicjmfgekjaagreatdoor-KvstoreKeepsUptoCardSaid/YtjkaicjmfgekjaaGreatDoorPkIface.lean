/-
  Iface
-/
import Derived.Test.YtjkaicjmfgekjaaGreatDoorPkLoop
set_option linter.all false
namespace Go.Proofs.YtjkaicjmfgekjaaGreatDoor
section
variable {P :Program}{n:FN}{ρ:A8}{w:World}{dst:Option Nat}{ty:TypeId}{pos:String}{af:Array Edge}{g:Option (Nat×Bool)}
end
section
variable {P :Program}{f:FuncId}{n:FN}{R:Ending->World->Prop}{k:List Item}{ρ:A8}{w:World}
variable {dst :Option Nat}{ty:TypeId}{pos:String}{af:Array Edge}{K:A8->World->Prop}
end
end Go.Proofs.YtjkaicjmfgekjaaGreatDoor
