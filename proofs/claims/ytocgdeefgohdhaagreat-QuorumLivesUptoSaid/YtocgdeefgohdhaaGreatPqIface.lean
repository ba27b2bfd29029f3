/-
  Iface
-/
import Derived.Test.YtocgdeefgohdhaaGreatPqLoop
set_option linter.all false
namespace Go.Proofs.YtocgdeefgohdhaaGreat
section
variable {P :Program}{n:FN}{ρ:A5}{w:World}{dst:Option Nat}{ty:TypeId}{pos:String}{af:Array Edge}{g:Option (Nat×Bool)}
theorem GY {t e:TypeId}{x:Operand}{v:Value}(ht:P.underlying t=some (.pointer e))(hx:rd n ρ x=v):X P n ρ ⟨dst,.makeInterface t x,ty,pos,af,g⟩ w (.iface t v) w:=by
 simp[X,execOp,hx,Instr.makeInterface,run_underlying ht]
theorem Hl {x:Operand}{t:TypeId}{v:Value}(h:rd n ρ x= .iface t v):X P n ρ ⟨dst,.nilCheck x,ty,pos,af,g⟩ w (.iface t v) w:=by simp[X,execOp,h]
end
section
variable {P :Program}{f:FuncId}{n:FN}{R:Ending→World→Prop}{k:List Item}{ρ:A5}{w:World}
variable {dst :Option Nat}{ty:TypeId}{pos:String}{af:Array Edge}{K:A5→World→Prop}
theorem AD.callM {g:FuncId}{t:TypeId}{nm:String}{rv:Value}{fv:Operand}{ol:List Operand}{ts:Array TypeId}{vals:List Value}{Φ:Value→World→Prop}
  (hm:∀w,(method (P.types.size+Made.depth) t rv nm).run P w= .ok (g,rv) w) (he:Du P g) (hf:rd n ρ fv= .func (.method nm) #[.iface t rv] #[])
  (ha:[rv]++ol.map (rd n ρ)=vals)
  (hc:Calls P g vals.toArray w (AU Φ)) (h:∀v w',Φ v w'→K (Bo ρ dst v) w'):
  AD P f n R k ⟨dst,.call {callee:= .value fv,args:=ol.toArray,argTypes:=ts},ty,pos,af,none⟩ ρ w K:=by
 refine AD.enter (g:=g) (vals:=vals.toArray) ?_ hc h
 rw[←ha]
 have e:List.take ol.length (List.map (rd n ρ) ol)=List.map (rd n ρ) ol:=List.take_of_length_le Zs
 simp[execOp,resolve,hf,Deferred.ofValue,invoke,callMethod,hm,e]
 exact he _ w
theorem AD.callI {g:FuncId}{t:TypeId}{nm:String}{rv:Value}{rx:Operand}{ol:List Operand}{ts:Array TypeId}{vals:List Value}{Φ:Value→World→Prop}
  (hm:∀w,(method (P.types.size+Made.depth) t rv nm).run P w= .ok (g,rv) w) (he:Du P g) (hf:rd n ρ rx= .iface t rv)
  (ha:[rv]++ol.map (rd n ρ)=vals)
  (hc:Calls P g vals.toArray w (AU Φ)) (h:∀v w',Φ v w'→K (Bo ρ dst v) w'):
  AD P f n R k ⟨dst,.call {callee:= .invoke rx nm,args:=ol.toArray,argTypes:=ts},ty,pos,af,none⟩ ρ w K:=by
 refine AD.enter (g:=g) (vals:=vals.toArray) ?_ hc h
 rw[←ha]
 have e:List.take ol.length (List.map (rd n ρ) ol)=List.map (rd n ρ) ol:=List.take_of_length_le Zs
 simp[execOp,resolve,hf,invoke,callMethod,hm,e]
 exact he _ w
end
end Go.Proofs.YtocgdeefgohdhaaGreat
