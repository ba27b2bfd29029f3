/-
  Cell
-/
import Derived.Test.YtjkaicjmfgekjaaGreatDoorPcErr
import Derived.Test.YtjkaicjmfgekjaaGreatDoorPcDefer
set_option linter.all false
namespace Go.Proofs.YtjkaicjmfgekjaaGreatDoor
open Go.Conc.Locks Go.MuLone
section
variable {P :Program}{f:FuncId}{n:FN}{m:Nat}{R:Ending->World->Prop}{k:List Item}{ρ:Bd}{w:World}
def Qv {fn:Func}{t T u y:Nat}{x:Value}{cs ds:Array Value}{b o c p size bytes:Nat}{z:Value}(h:fn.results=#[.cell t T,.cell u T,.tmp y])(he:Ty P T size bytes z true)
  (hp:rd n ρ (.tmp t)= .pointer (some ⟨b,o,none⟩)) (hs:cs.size=size) (hc:Cl w b o cs.toList) (hq:rd n ρ (.tmp u)= .pointer (some ⟨c,p,none⟩)) (hs2:ds.size=size) (hd:Cl w c p ds.toList) (hx:rd n ρ (.tmp y)=x):
  (results fn (Ci n ρ).tmps).run P w= .ok (.tuple #[.agg cs,.agg ds,x]) w:=by
 have hl:=DC (w:=w) (b:=b) (o:=o) (v:= .agg cs) he ⟨λ_=>⟨cs,rfl,hs⟩,λe=>(by cases e)⟩ hc;have hl2:=DC (w:=w) (b:=c) (o:=p) (v:= .agg ds) he ⟨λ_=>⟨ds,rfl,hs2⟩,λe=>(by cases e)⟩ hd;have ht:=Cp (n:=n) (ρ:=ρ) t;rw[hp]at ht;have ht':(Ci n ρ).tmps[t]?.getD undef= .pointer (some ⟨b,o,none⟩):=by rw[<-Abi];exact ht
 have hv:=Cp (n:=n) (ρ:=ρ) u;rw[hq]at hv;have hv':(Ci n ρ).tmps[u]?.getD undef= .pointer (some ⟨c,p,none⟩):=by rw[<-Abi];exact hv
 have hu:=Cp (n:=n) (ρ:=ρ) y;rw[hx]at hu;have hu':(Ci n ρ).tmps[y]?.getD undef=x:=by rw[<-Abi];exact hu
 simp[results,h,ht',hv',hu',asAddr,hl,hl2]
def Ai.retCCT {fn:Func}{t T u y:Nat}{x:Value}{cs ds:Array Value}{b o c p size bytes:Nat}{z:Value}(hf:P.funcs[f]? =some fn)(hr:fn.results=#[.cell t T,.cell u T,.tmp y])(he:Ty P T size bytes z true)(hp:rd ⟨m,[]⟩ ρ (.tmp t)= .pointer (some ⟨b,o,none⟩))(hs:cs.size=size)(hc:Cl w b o cs.toList)
  (hq:rd ⟨m,[]⟩ ρ (.tmp u)= .pointer (some ⟨c,p,none⟩)) (hs2:ds.size=size) (hd:Cl w c p ds.toList) (hx:rd ⟨m,[]⟩ ρ (.tmp y)=x)
  (h:R (.returned (.tuple #[.agg cs,.agg ds,x])) w):Ai P f ⟨m,[]⟩ R (.code .ret::k) ρ w:=Ai.ret hf (Qv hr he hp hs hc hq hs2 hd hx) h
def Ai.retUW {L:MuLink}(H:MuLib P L){fn:Func}{a:Addr}{v:Value}(hf:P.funcs[f]? =some fn)(hds:n.ds=[⟨.fn (.func L.unlock) #[],#[.pointer (some a)]⟩])(hr:(results fn (Ci n ρ).tmps).run P (w.setCell a (.int .i32 0))= .ok v (w.setCell a (.int .i32 0)))
  (hc:w.cell? a=some (.int .i32 1)) (hz:w.frozen? a=false) (h:R (.returned v) (w.setCell a (.int .i32 0))):Ai P f n R (.code .ret::k) ρ w:=by
 refine Ai.retD hf ?_;rw[hds];refine leaves_cons (f:=L.unlock) (args:=#[.pointer (some a)]) Zs (show(callFunc L.unlock #[.pointer (some a)]).run P w=_ from run_callFunc_enter H.f_unlock rfl rfl _ _) ?_;refine(unlock_deferred H a .returning _ hc hz).mono ?_;rintro e u' w'' ⟨rfl,rfl,rfl⟩;exact⟨_,hr,h⟩
def Ai.retUCT {L:MuLink}(H:MuLib P L){fn:Func}{t T u:Nat}{x:Value}{cs:Array Value}{b o size bytes lb:Nat}{z:Value}(hf:P.funcs[f]? =some fn)(hds:n.ds=[⟨.fn (.func L.unlock) #[],#[.pointer (some ⟨lb,0,none⟩)]⟩])
  (hr:fn.results=#[.cell t T,.tmp u]) (he:Ty P T size bytes z true) (hp:rd n ρ (.tmp t)= .pointer (some ⟨b,o,none⟩)) (hs:cs.size=size) (hcl:Cl w b o cs.toList) (hne:b≠lb) (hx:rd n ρ (.tmp u)=x)
  (hc:w.cell? ⟨lb,0,none⟩=some (.int .i32 1)) (hz:w.frozen? ⟨lb,0,none⟩=false) (h:R (.returned (.tuple #[.agg cs,x])) (w.setCell ⟨lb,0,none⟩ (.int .i32 0))):Ai P f n R (.code .ret::k) ρ w:=
 Ai.retUW H hf hds (Mi hr he hp hs (hcl.keep (S:=one lb) (AP _ _ _ _) (by simp only[one];omega)) hx) hc hz h
end
end Go.Proofs.YtjkaicjmfgekjaaGreatDoor
