/-
  Seg
-/
import Derived.Test.YtjkaicjmfgekjaaGreatDoorPkLoop
set_option linter.all false
namespace Go.Proofs.YtjkaicjmfgekjaaGreatDoor
section
variable {α :Type}[Enc α]{w:World}{b:Nat}{T:TypeId}{A B:List Value}{xs:List α}
end
section
variable {P :Program}{n:FN}{ρ:A8}{w:World}{dst:Option Nat}{ty:TypeId}{pos:String}{af:Array Edge}{g:Option (Nat×Bool)}
end
section
variable {P :Program}{f:FuncId}{n:FN}{m:Nat}{R:Ending->World->Prop}{k:List Item}{ρ:A8}{w:World}
theorem TF {fn:Func}{t T:Nat}{cs:Array Value}{b o size bytes:Nat}{z:Value}(h:fn.results=#[.cell t T])(he:Ty P T size bytes z true)(hp:rd n ρ (.tmp t)= .pointer (some ⟨b,o,none⟩))(hs:cs.size=size)(hc:Cl w b o cs.toList):
  (results fn (B6 n ρ).tmps).run P w= .ok (.agg cs) w:=by
 have hl:=Dn (w:=w) (b:=b) (o:=o) (v:= .agg cs) he ⟨fun _=>⟨cs,rfl,hs⟩,fun e=>(by cases e)⟩ hc
 have ht:=Cc (n:=n) (ρ:=ρ) t
 rw[hp]at ht
 have ht':(B6 n ρ).tmps[t]?.getD undef= .pointer (some ⟨b,o,none⟩):=by rw[<-Abh];exact ht
 simp[results,h,ht',asAddr,hl]
theorem Ai.retC {fn:Func}{t T:Nat}{cs:Array Value}{b o size bytes:Nat}{z:Value}(hf:P.funcs[f]? =some fn)(hr:fn.results=#[.cell t T])(he:Ty P T size bytes z true)(hp:rd ⟨m,[]⟩ ρ (.tmp t)= .pointer (some ⟨b,o,none⟩))(hs:cs.size=size)(hc:Cl w b o cs.toList)
  (h:R (.returned (.agg cs)) w):Ai P f ⟨m,[]⟩ R (.code .ret::k) ρ w:=Ai.ret hf (TF hr he hp hs hc) h
end
end Go.Proofs.YtjkaicjmfgekjaaGreatDoor
