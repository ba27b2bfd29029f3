/-
  Defer
-/
import Derived.Test.YtjkaicjmfgekjaaGreatDoorPcMore
import Derived.Defers
import Derived.Conc.MuLone
set_option linter.all false
namespace Go.Proofs.YtjkaicjmfgekjaaGreatDoor
open Go.Conc.Locks Go.MuLone
section
variable {P :Program}{f:FuncId}{n:FN}{m:Nat}{R:Ending->World->Prop}{k:List Item}{ops:Array Oper}{ρ:Bd}{w:World}
variable {dst :Option Nat}{ty:TypeId}{pos:String}{af:Array Edge}
def RL.defer {ol:List Operand}{ts:Array TypeId}{g:FuncId}{vals:List Value}(ha:ol.map (rd n ρ)=vals)
  (h:Ai P f ⟨n.n,⟨.fn (.func g) #[],vals.toArray⟩::n.ds⟩ R k (Bj ρ dst undef) w):
  RL P f n R k ops [⟨dst,.defer {callee:= .value (.func g),args:=ol.toArray,argTypes:=ts},ty,pos,af,none⟩] ρ w:=by
 refine wpList_plain rfl λK hK=> ?_;have hrun:(execOp (rd n ρ) ⟨dst,.defer {callee:= .value (.func g),args:=ol.toArray,argTypes:=ts},ty,pos,af,none⟩).run P w= .ok (.defer ⟨.fn (.func g) #[],vals.toArray⟩) w:=by
  simp[execOp,resolve,rd,Deferred.ofValue,ha]
 simp only[Oper.wp,BF,hrun,Oper.upon];have e:({Ci n ρ with defers:=(⟨.fn (.func g) #[],vals.toArray⟩:Deferred)::(Ci n ρ).defers}:Act)=Ci ⟨n.n,⟨.fn (.func g) #[],vals.toArray⟩::n.ds⟩ ρ:=rfl;rw[e,B5];exact hK _ _ ⟨_,_,rfl,h⟩
def Ai.retD {fn:Func}(hf:P.funcs[f]? =some fn)(h:Leaves P fn (Ci n ρ).tmps R n.ds .returning w):Ai P f n R (.code .ret::k) ρ w:=λcs=>by
 obtain⟨e',w'',fr',hR,hs,hfn,hl⟩:=leaves_steps n.ds .returning w {((bf f).at (Ci n ρ) (.code .ret::k))with mode:= .returning} cs rfl rfl rfl hf rfl h;exact⟨e',w'',fr',hR,Comes.of_steps (.one step_ret) hs,hfn,hl⟩
def Ai.retU {L:MuLink}(H:MuLib P L){fn:Func}{a:Addr}{v:Value}(hf:P.funcs[f]? =some fn)(hds:n.ds=[⟨.fn (.func L.unlock) #[],#[.pointer (some a)]⟩])(hr:∀w,(results fn (Ci n ρ).tmps).run P w= .ok v w)
  (hc:w.cell? a=some (.int .i32 1)) (hz:w.frozen? a=false) (h:R (.returned v) (w.setCell a (.int .i32 0))):Ai P f n R (.code .ret::k) ρ w:=by
 refine Ai.retD hf ?_;rw[hds];refine leaves_cons (f:=L.unlock) (args:=#[.pointer (some a)]) Zs (show(callFunc L.unlock #[.pointer (some a)]).run P w=_ from run_callFunc_enter H.f_unlock rfl rfl _ _) ?_;refine(unlock_deferred H a .returning _ hc hz).mono ?_;rintro e u' w'' ⟨rfl,rfl,rfl⟩;exact⟨_,hr _,h⟩
end
section
variable {P :Program}{L:MuLink}{b:Nat}{T:TypeId}{w:World}{cs:List Value}{v u:Value}
def AP (w:World)(b o:Nat)(v:Value):Ae (one b) w (w.setCell ⟨b,o,none⟩ v):=
 ⟨rfl,rfl,rfl,by simp[World.setCell],λk _ hn=>by
  simp only[World.setCell,Abd];rw[if_neg (λe=>hn e.symm)]⟩
def AC.cellH (h:AC w b (v::cs) T):w.cell? ⟨b,0,none⟩=some v:=h.cl.head
def AC.thawH {c:List Value}(h:AC w b c T)(o:Nat):w.frozen? ⟨b,o,none⟩=false:=by
 unfold AC at h;simp[World.frozen?,h]
def AC.setH (h:AC w b (v::cs) T):AC (w.setCell ⟨b,0,none⟩ u) b (u::cs) T:=by
 unfold AC at*;simp[World.setCell,Abd,h]
def gZ (H:MuLib P L)(h:AC w b (.int .i32 0::cs) T):Calls P L.lock #[.pointer (some ⟨b,0,none⟩)] w (AU λv w'=>v= .tuple #[]/\AC w' b (.int .i32 1::cs) T/\Ae (one b) w w'):=
 (lock_free H _ w h.cellH (h.thawH 0)).mono λ_ _ ⟨he,hw⟩=>⟨_,he,rfl,hw▸h.setH,hw▸AP w b 0 _⟩
end
end Go.Proofs.YtjkaicjmfgekjaaGreatDoor
