/-
  Copy
-/
import Derived.Test.YtocgdeefgohdhaaGreatPkMap
import Derived.Laws.CopyRow
import Derived.Laws.Externs
set_option linter.all false
namespace Go.Proofs.YtocgdeefgohdhaaGreat
section
variable {P :Program}{f:FuncId}{n:FN}{R:Ending→World→Prop}{k:List Item}{ρ:Regs}{w:World}
variable {dst :Option Nat}{ty:TypeId}{pos:String}{af:Array Edge}{K:Regs→World→Prop}
theorem St1.extn {g:FuncId}{ol:List Operand}{tys:Array TypeId}{vals:List Value}{v:Value}(hv:ol.map (rd n ρ)=vals)(hr:(callFunc g vals.toArray).run P w= .ok (.value v) w)
  (h:K (updo ρ dst v) w):St1 P f n R k ⟨dst,.call {callee:= .value (.func g),args:=ol.toArray,argTypes:=tys},ty,pos,af,none⟩ ρ w K:=by
 refine St1.val (v:=v) (w':=w) ?_ h
 simp[execOp,resolve,rd,Deferred.ofValue,invoke,hv,hr]
end
end Go.Proofs.YtocgdeefgohdhaaGreat
