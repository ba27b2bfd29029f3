/-
  Iface
-/
import Derived.Test.YtjkaicjmfgekjaaGreatDoorPkLoop
set_option linter.all false
namespace Go.Proofs.YtjkaicjmfgekjaaGreatDoor
section
variable {P :Program}{n:FN}{ρ:AV}{w:World}{dst:Option Nat}{ty:TypeId}{pos:String}{af:Array Edge}{g:Option (Nat×Bool)}
end
section
variable {P :Program}{f:FuncId}{n:FN}{R:Ending→World→Prop}{k:List Item}{ρ:AV}{w:World}
variable {dst :Option Nat}{ty:TypeId}{pos:String}{af:Array Edge}{K:AV→World→Prop}
end
end Go.Proofs.YtjkaicjmfgekjaaGreatDoor
