/-
  Seg
-/
import Derived.Test.YtjkaicjmfgekjaaGreatDoorPcLoop
set_option linter.all false
namespace Go.Proofs.YtjkaicjmfgekjaaGreatDoor
section
variable {α :Type}[Enc α]{w:World}{b:Nat}{T:TypeId}{A B:List Value}{xs:List α}
end
section
variable {P :Program}{n:FN}{ρ:Bd}{w:World}{dst:Option Nat}{ty:TypeId}{pos:String}{af:Array Edge}{g:Option (Nat×Bool)}
end
section
variable {P :Program}{f:FuncId}{n:FN}{m:Nat}{R:Ending->World->Prop}{k:List Item}{ρ:Bd}{w:World}
def Ug {fn:Func}{t T:Nat}{cs:Array Value}{b o size bytes:Nat}{z:Value}(h:fn.results=#[.cell t T])(he:Ty P T size bytes z true)(hp:rd n ρ (.tmp t)= .pointer (some ⟨b,o,none⟩))(hs:cs.size=size)(hc:Cl w b o cs.toList):
  (results fn (Ci n ρ).tmps).run P w= .ok (.agg cs) w:=by
 have hl:=DC (w:=w) (b:=b) (o:=o) (v:= .agg cs) he ⟨λ_=>⟨cs,rfl,hs⟩,λe=>(by cases e)⟩ hc;have ht:=Cp (n:=n) (ρ:=ρ) t;rw[hp]at ht;have ht':(Ci n ρ).tmps[t]?.getD undef= .pointer (some ⟨b,o,none⟩):=by rw[<-Abi];exact ht
 simp[results,h,ht',asAddr,hl]
def Ai.retC {fn:Func}{t T:Nat}{cs:Array Value}{b o size bytes:Nat}{z:Value}(hf:P.funcs[f]? =some fn)(hr:fn.results=#[.cell t T])(he:Ty P T size bytes z true)(hp:rd ⟨m,[]⟩ ρ (.tmp t)= .pointer (some ⟨b,o,none⟩))(hs:cs.size=size)(hc:Cl w b o cs.toList)
  (h:R (.returned (.agg cs)) w):Ai P f ⟨m,[]⟩ R (.code .ret::k) ρ w:=Ai.ret hf (Ug hr he hp hs hc) h
end
end Go.Proofs.YtjkaicjmfgekjaaGreatDoor
