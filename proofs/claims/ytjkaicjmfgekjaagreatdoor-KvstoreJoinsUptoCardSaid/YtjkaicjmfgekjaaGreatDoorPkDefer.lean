/-
  Defer
-/
import Derived.Test.YtjkaicjmfgekjaaGreatDoorPkMore
import Derived.Defers
import Derived.Conc.MuLone
set_option linter.all false
namespace Go.Proofs.YtjkaicjmfgekjaaGreatDoor
open Go.Conc.Locks Go.MuLone
section
variable {P :Program}{f:FuncId}{n:FN}{m:Nat}{R:Ending→World→Prop}{k:List Item}{ops:Array Oper}{ρ:AV}{w:World}
variable {dst :Option Nat}{ty:TypeId}{pos:String}{af:Array Edge}
theorem RL.defer {ol:List Operand}{ts:Array TypeId}{g:FuncId}{vals:List Value}(ha:ol.map (rd n ρ)=vals)
  (h:Aj P f ⟨n.n,⟨.fn (.func g) #[],vals.toArray⟩::n.ds⟩ R k (A4 ρ dst undef) w):
  RL P f n R k ops [⟨dst,.defer {callee:= .value (.func g),args:=ol.toArray,argTypes:=ts},ty,pos,af,none⟩] ρ w:=by
 refine wpList_plain rfl fun K hK=> ?_
 have hrun:(execOp (rd n ρ) ⟨dst,.defer {callee:= .value (.func g),args:=ol.toArray,argTypes:=ts},ty,pos,af,none⟩).run P w= .ok (.defer ⟨.fn (.func g) #[],vals.toArray⟩) w:=by
  simp[execOp,resolve,rd,Deferred.ofValue,ha]
 simp only[Oper.wp,Bk,hrun,Oper.upon]
 have e:({BN n ρ with defers:=(⟨.fn (.func g) #[],vals.toArray⟩:Deferred)::(BN n ρ).defers}:Act)=BN ⟨n.n,⟨.fn (.func g) #[],vals.toArray⟩::n.ds⟩ ρ:=rfl
 rw[e,BG]
 exact hK _ _ ⟨_,_,rfl,h⟩
theorem Aj.retD {fn:Func}(hf:P.funcs[f]? =some fn)(h:Leaves P fn (BN n ρ).tmps R n.ds .returning w):Aj P f n R (.code .ret::k) ρ w:=fun cs=>by
 obtain⟨e',w'',fr',hR,hs,hfn,hl⟩:=leaves_steps n.ds .returning w {((bf f).at (BN n ρ) (.code .ret::k))with mode:= .returning} cs rfl rfl rfl hf rfl h
 exact⟨e',w'',fr',hR,Comes.of_steps (.one step_ret) hs,hfn,hl⟩
theorem Aj.retU {L:MuLink}(H:MuLib P L){fn:Func}{a:Addr}{v:Value}(hf:P.funcs[f]? =some fn)(hds:n.ds=[⟨.fn (.func L.unlock) #[],#[.pointer (some a)]⟩])(hr:∀w,(results fn (BN n ρ).tmps).run P w= .ok v w)
  (hc:w.cell? a=some (.int .i32 1)) (hz:w.frozen? a=false) (h:R (.returned v) (w.setCell a (.int .i32 0))):Aj P f n R (.code .ret::k) ρ w:=by
 refine Aj.retD hf ?_
 rw[hds]
 refine leaves_cons (f:=L.unlock) (args:=#[.pointer (some a)]) Zs (show(callFunc L.unlock #[.pointer (some a)]).run P w=_ from run_callFunc_enter H.f_unlock rfl rfl _ _) ?_
 refine(unlock_deferred H a .returning _ hc hz).mono ?_
 rintro e u' w'' ⟨rfl,rfl,rfl⟩
 exact⟨_,hr _,h⟩
end
section
variable {P :Program}{L:MuLink}{b:Nat}{T:TypeId}{w:World}{cs:List Value}{v u:Value}
theorem BD (w:World)(b o:Nat)(v:Value):Ah (one b) w (w.setCell ⟨b,o,none⟩ v):=
 ⟨rfl,rfl,rfl,by simp[World.setCell],fun k _ hn=>by
  simp only[World.setCell,Array.getElem?_modify]
  rw[if_neg (fun e=>hn e.symm)]⟩
theorem AA.cellH (h:AA w b (v::cs) T):w.cell? ⟨b,0,none⟩=some v:=h.cl.head
theorem AA.thawH {c:List Value}(h:AA w b c T)(o:Nat):w.frozen? ⟨b,o,none⟩=false:=by
 unfold AA at h
 simp[World.frozen?,h]
theorem AA.setH (h:AA w b (v::cs) T):AA (w.setCell ⟨b,0,none⟩ u) b (u::cs) T:=by
 unfold AA at*
 simp[World.setCell,Array.getElem?_modify,h]
theorem VS (H:MuLib P L)(h:AA w b (.int .i32 0::cs) T):Calls P L.lock #[.pointer (some ⟨b,0,none⟩)] w (AS fun v w'=>v= .tuple #[]∧AA w' b (.int .i32 1::cs) T∧Ah (one b) w w'):=
 (lock_free H _ w h.cellH (h.thawH 0)).mono fun _ _ ⟨he,hw⟩=>⟨_,he,rfl,hw▸h.setH,hw▸BD w b 0 _⟩
end
end Go.Proofs.YtjkaicjmfgekjaaGreatDoor
