/-
  The card of KvstoreKeeps: for every input whose parts are together of bulk at most 1048576 the law returns true, and changes nothing that was there.
-/
import Derived.Test.YtjkaicjmfgekjaaGreatDoorPkTa
set_option linter.all false
set_option maxRecDepth 100000
set_option maxHeartbeats 4000000
namespace Go.Proofs.YtjkaicjmfgekjaaGreatDoor.kvstoreKeeps
open Go.Proofs.Tryz
open Go.ChangeShapes Go.WideShapes Go.ChangeAt Go.RowKit
theorem ZD (os:Os)(started:os.Started)(H:Type)(enc:TypeId×Value->H)(F:Stop.Interp):
  ReturnsInHanded {} Tryz.checked os 4 .any ((Rows.OpenSpec.upto Rows.kvstoreKeepsSpec).preRow enc prog Tryz.f4 Rows.kvstoreKeepsUptoRow.domain false Rows.kvstoreKeepsUptoRow.laid) (((Rows.OpenSpec.upto Rows.kvstoreKeepsSpec).at F).post enc prog Tryz.f4 false true false false):=by
 obtain⟨places,hx⟩:=gz os enc
 refine returnsInHanded_of_row (C:=Tryz.checked) (s:=Rows.OpenSpec.upto Rows.kvstoreKeepsSpec) own started Zk func4
  (witness_row_atRef (enc:=enc) (C:=Tryz.checked) false (Jd os) #[.slice none 0 0,.slice none 0 0,.int .i64 0] rfl Zk Zk Zk
   (OpenSpec.preRow_of_cond 8 hx Zk (fun k hk=>by cases hk;kernel_rfl) Zk (VL os))) ?_
 intro W base args ds gs before hval hW _ hcond _ hL _ _
 exact VK H enc W base args ds gs before hval hW (hcond _ rfl) hL
theorem gS {a b:Bool}(h:a=true)(k:b=true):(a&&b)=true:=by rw[h,k];rfl
theorem closed :joinedFacts Tryz.pinned.checked.prog 4 Tryz.f4 (Rows.OpenSpec.upto Rows.kvstoreKeepsSpec).bare Rows.kvstoreKeepsUptoRow=true:=by
 unfold joinedFacts
 repeat' (with_reducible refine gS ?_ ?_)
 all_goals as_aux_lemma=>kernel_rfl
theorem said :Rows.KvstoreKeepsUptoSaid:=
 OpenClaim.holds_of_cond 4 Tryz.f4 rfl rfl rfl rfl rfl rfl rfl ⟨rfl,rfl,rfl,rfl,rfl⟩ rfl rfl rfl rfl rfl Zk func4 closed
  (of_decide_eq_true Zk) (by unfold Func.isWrapper;first|(rw[if_pos (by decide+kernel)];kernel_rfl)|(rw[if_neg (by decide+kernel)];exact⟨rfl,rfl⟩))
  (fun os started H enc _ F=>by rw[OpenClaim.pre_eq_preRow];exact ZD os started H enc F)
theorem plain (f:FuncId)(fn:Func)(hf:Tryz.pinned.checked.prog.funcNamed "trolley/trolleylaw09.KvstoreKeeps" =some f)(hfn:Tryz.pinned.checked.prog.funcs[f]? =some fn):
  true=Tryz.pinned.checked.prog.looks []∧∀(j:Nat) t,fn.params[j]? =some t->Tryz.pinned.checked.prog.wantsStandIn t=false:=by
 obtain rfl:f=4:=Option.some.inj ((show prog.funcNamed "trolley/trolleylaw09.KvstoreKeeps" =some 4 by kernel_rfl).symm.trans hf)|>.symm
 obtain rfl:fn=Tryz.f4:=(Option.some.inj (func4.symm.trans hfn)).symm
 refine⟨by kernel_rfl,fun j t ht=> ?_⟩
 rw[Tryz.params4]at ht
 have h9:=Array.mem_of_getElem? ht
 simp at h9
 show prog.wantsStandIn t=false
 rcases h9 with rfl|rfl<;>kernel_rfl
theorem proved :Rows.KvstoreKeepsUptoCardSaid:=
 Claim7.holds_tied_plain_at .later [] _ _ _ _ said (fun _ h=>by cases h) Zk (fun _ h=>by cases h) kvstoreKeepsUpto_row_tie rfl ⟨rfl,rfl⟩ Zk rfl plain Zk
end Go.Proofs.YtjkaicjmfgekjaaGreatDoor.kvstoreKeeps
