/-
  Cell
-/
import Derived.Test.YtjkaicjmfgekjaaGreatDoorPkErr
import Derived.Test.YtjkaicjmfgekjaaGreatDoorPkDefer
set_option linter.all false
namespace Go.Proofs.YtjkaicjmfgekjaaGreatDoor
open Go.Conc.Locks Go.MuLone
section
variable {P :Program}{f:FuncId}{n:FN}{m:Nat}{R:Ending->World->Prop}{k:List Item}{ρ:A8}{w:World}
theorem PK {fn:Func}{t T u y:Nat}{x:Value}{cs ds:Array Value}{b o c p size bytes:Nat}{z:Value}(h:fn.results=#[.cell t T,.cell u T,.tmp y])(he:Ty P T size bytes z true)
  (hp:rd n ρ (.tmp t)= .pointer (some ⟨b,o,none⟩)) (hs:cs.size=size) (hc:Cl w b o cs.toList) (hq:rd n ρ (.tmp u)= .pointer (some ⟨c,p,none⟩)) (hs2:ds.size=size) (hd:Cl w c p ds.toList) (hx:rd n ρ (.tmp y)=x):
  (results fn (B6 n ρ).tmps).run P w= .ok (.tuple #[.agg cs,.agg ds,x]) w:=by
 have hl:=Dn (w:=w) (b:=b) (o:=o) (v:= .agg cs) he ⟨fun _=>⟨cs,rfl,hs⟩,fun e=>(by cases e)⟩ hc
 have hl2:=Dn (w:=w) (b:=c) (o:=p) (v:= .agg ds) he ⟨fun _=>⟨ds,rfl,hs2⟩,fun e=>(by cases e)⟩ hd
 have ht:=Cc (n:=n) (ρ:=ρ) t
 rw[hp]at ht
 have ht':(B6 n ρ).tmps[t]?.getD undef= .pointer (some ⟨b,o,none⟩):=by rw[<-Abh];exact ht
 have hv:=Cc (n:=n) (ρ:=ρ) u
 rw[hq]at hv
 have hv':(B6 n ρ).tmps[u]?.getD undef= .pointer (some ⟨c,p,none⟩):=by rw[<-Abh];exact hv
 have hu:=Cc (n:=n) (ρ:=ρ) y
 rw[hx]at hu
 have hu':(B6 n ρ).tmps[y]?.getD undef=x:=by rw[<-Abh];exact hu
 simp[results,h,ht',hv',hu',asAddr,hl,hl2]
theorem Ai.retCCT {fn:Func}{t T u y:Nat}{x:Value}{cs ds:Array Value}{b o c p size bytes:Nat}{z:Value}(hf:P.funcs[f]? =some fn)(hr:fn.results=#[.cell t T,.cell u T,.tmp y])(he:Ty P T size bytes z true)(hp:rd ⟨m,[]⟩ ρ (.tmp t)= .pointer (some ⟨b,o,none⟩))(hs:cs.size=size)(hc:Cl w b o cs.toList)
  (hq:rd ⟨m,[]⟩ ρ (.tmp u)= .pointer (some ⟨c,p,none⟩)) (hs2:ds.size=size) (hd:Cl w c p ds.toList) (hx:rd ⟨m,[]⟩ ρ (.tmp y)=x)
  (h:R (.returned (.tuple #[.agg cs,.agg ds,x])) w):Ai P f ⟨m,[]⟩ R (.code .ret::k) ρ w:=Ai.ret hf (PK hr he hp hs hc hq hs2 hd hx) h
theorem Ai.retUW {L:MuLink}(H:MuLib P L){fn:Func}{a:Addr}{v:Value}(hf:P.funcs[f]? =some fn)(hds:n.ds=[⟨.fn (.func L.unlock) #[],#[.pointer (some a)]⟩])(hr:(results fn (B6 n ρ).tmps).run P (w.setCell a (.int .i32 0))= .ok v (w.setCell a (.int .i32 0)))
  (hc:w.cell? a=some (.int .i32 1)) (hz:w.frozen? a=false) (h:R (.returned v) (w.setCell a (.int .i32 0))):Ai P f n R (.code .ret::k) ρ w:=by
 refine Ai.retD hf ?_
 rw[hds]
 refine leaves_cons (f:=L.unlock) (args:=#[.pointer (some a)]) Zs (show(callFunc L.unlock #[.pointer (some a)]).run P w=_ from run_callFunc_enter H.f_unlock rfl rfl _ _) ?_
 refine(unlock_deferred H a .returning _ hc hz).mono ?_
 rintro e u' w'' ⟨rfl,rfl,rfl⟩
 exact⟨_,hr,h⟩
theorem Ai.retUCT {L:MuLink}(H:MuLib P L){fn:Func}{t T u:Nat}{x:Value}{cs:Array Value}{b o size bytes lb:Nat}{z:Value}(hf:P.funcs[f]? =some fn)(hds:n.ds=[⟨.fn (.func L.unlock) #[],#[.pointer (some ⟨lb,0,none⟩)]⟩])
  (hr:fn.results=#[.cell t T,.tmp u]) (he:Ty P T size bytes z true) (hp:rd n ρ (.tmp t)= .pointer (some ⟨b,o,none⟩)) (hs:cs.size=size) (hcl:Cl w b o cs.toList) (hne:b≠lb) (hx:rd n ρ (.tmp u)=x)
  (hc:w.cell? ⟨lb,0,none⟩=some (.int .i32 1)) (hz:w.frozen? ⟨lb,0,none⟩=false) (h:R (.returned (.tuple #[.agg cs,x])) (w.setCell ⟨lb,0,none⟩ (.int .i32 0))):Ai P f n R (.code .ret::k) ρ w:=
 Ai.retUW H hf hds (LK hr he hp hs (hcl.keep (S:=one lb) (AJ _ _ _ _) (by simp only[one];omega)) hx) hc hz h
end
end Go.Proofs.YtjkaicjmfgekjaaGreatDoor
