/-
  Defer
-/
import Derived.Test.YtjkaicjmfgekjaaGreatDoorPkMore
import Derived.Defers
import Derived.Conc.MuLone
set_option linter.all false
namespace Go.Proofs.YtjkaicjmfgekjaaGreatDoor
open Go.Conc.Locks Go.MuLone
section
variable {P :Program}{f:FuncId}{n:FN}{m:Nat}{R:Ending->World->Prop}{k:List Item}{ops:Array Oper}{ρ:A8}{w:World}
variable {dst :Option Nat}{ty:TypeId}{pos:String}{af:Array Edge}
theorem RL.defer {ol:List Operand}{ts:Array TypeId}{g:FuncId}{vals:List Value}(ha:ol.map (rd n ρ)=vals)
  (h:Ai P f ⟨n.n,⟨.fn (.func g) #[],vals.toArray⟩::n.ds⟩ R k (Bc ρ dst undef) w):
  RL P f n R k ops [⟨dst,.defer {callee:= .value (.func g),args:=ol.toArray,argTypes:=ts},ty,pos,af,none⟩] ρ w:=by
 refine wpList_plain rfl fun K hK=> ?_
 have hrun:(execOp (rd n ρ) ⟨dst,.defer {callee:= .value (.func g),args:=ol.toArray,argTypes:=ts},ty,pos,af,none⟩).run P w= .ok (.defer ⟨.fn (.func g) #[],vals.toArray⟩) w:=by
  simp[execOp,resolve,rd,Deferred.ofValue,ha]
 simp only[Oper.wp,BB,hrun,Oper.upon]
 have e:({B6 n ρ with defers:=(⟨.fn (.func g) #[],vals.toArray⟩:Deferred)::(B6 n ρ).defers}:Act)=B6 ⟨n.n,⟨.fn (.func g) #[],vals.toArray⟩::n.ds⟩ ρ:=rfl
 rw[e,BS]
 exact hK _ _ ⟨_,_,rfl,h⟩
theorem Ai.retD {fn:Func}(hf:P.funcs[f]? =some fn)(h:Leaves P fn (B6 n ρ).tmps R n.ds .returning w):Ai P f n R (.code .ret::k) ρ w:=fun cs=>by
 obtain⟨e',w'',fr',hR,hs,hfn,hl⟩:=leaves_steps n.ds .returning w {((bf f).at (B6 n ρ) (.code .ret::k))with mode:= .returning} cs rfl rfl rfl hf rfl h
 exact⟨e',w'',fr',hR,Comes.of_steps (.one step_ret) hs,hfn,hl⟩
theorem Ai.retU {L:MuLink}(H:MuLib P L){fn:Func}{a:Addr}{v:Value}(hf:P.funcs[f]? =some fn)(hds:n.ds=[⟨.fn (.func L.unlock) #[],#[.pointer (some a)]⟩])(hr:∀w,(results fn (B6 n ρ).tmps).run P w= .ok v w)
  (hc:w.cell? a=some (.int .i32 1)) (hz:w.frozen? a=false) (h:R (.returned v) (w.setCell a (.int .i32 0))):Ai P f n R (.code .ret::k) ρ w:=by
 refine Ai.retD hf ?_
 rw[hds]
 refine leaves_cons (f:=L.unlock) (args:=#[.pointer (some a)]) Zs (show(callFunc L.unlock #[.pointer (some a)]).run P w=_ from run_callFunc_enter H.f_unlock rfl rfl _ _) ?_
 refine(unlock_deferred H a .returning _ hc hz).mono ?_
 rintro e u' w'' ⟨rfl,rfl,rfl⟩
 exact⟨_,hr _,h⟩
end
section
variable {P :Program}{L:MuLink}{b:Nat}{T:TypeId}{w:World}{cs:List Value}{v u:Value}
theorem AJ (w:World)(b o:Nat)(v:Value):Ad (one b) w (w.setCell ⟨b,o,none⟩ v):=
 ⟨rfl,rfl,rfl,by simp[World.setCell],fun k _ hn=>by
  simp only[World.setCell,Abc]
  rw[if_neg (fun e=>hn e.symm)]⟩
theorem AB.cellH (h:AB w b (v::cs) T):w.cell? ⟨b,0,none⟩=some v:=h.cl.head
theorem AB.thawH {c:List Value}(h:AB w b c T)(o:Nat):w.frozen? ⟨b,o,none⟩=false:=by
 unfold AB at h
 simp[World.frozen?,h]
theorem AB.setH (h:AB w b (v::cs) T):AB (w.setCell ⟨b,0,none⟩ u) b (u::cs) T:=by
 unfold AB at*
 simp[World.setCell,Abc,h]
theorem ZY (H:MuLib P L)(h:AB w b (.int .i32 0::cs) T):Calls P L.lock #[.pointer (some ⟨b,0,none⟩)] w (AN fun v w'=>v= .tuple #[]∧AB w' b (.int .i32 1::cs) T∧Ad (one b) w w'):=
 (lock_free H _ w h.cellH (h.thawH 0)).mono fun _ _ ⟨he,hw⟩=>⟨_,he,rfl,hw▸h.setH,hw▸AJ w b 0 _⟩
end
end Go.Proofs.YtjkaicjmfgekjaaGreatDoor
