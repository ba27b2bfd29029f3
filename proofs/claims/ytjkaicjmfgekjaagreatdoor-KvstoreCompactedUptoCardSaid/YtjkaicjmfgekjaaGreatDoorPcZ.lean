/-
  The card of KvstoreCompacted: for every input whose parts are together of bulk at most 1048576 the law returns true, and changes nothing that was there.
-/
import Derived.Test.YtjkaicjmfgekjaaGreatDoorPcTc
set_option linter.all false
set_option maxRecDepth 100000
set_option maxHeartbeats 4000000
namespace Go.Proofs.YtjkaicjmfgekjaaGreatDoor.kvstoreCompacted
open Go.Proofs.Tryz
open Go.ChangeShapes Go.WideShapes Go.ChangeAt Go.RowKit
theorem gA (os:Os)(started:os.Started)(H:Type)(enc:TypeId×Value->H)(F:Stop.Interp):
  ReturnsInHanded {} Tryz.checked os 5 .any ((Rows.OpenSpec.upto Rows.kvstoreCompactedSpec).preRow enc prog Tryz.f5 Rows.kvstoreCompactedUptoRow.domain false Rows.kvstoreCompactedUptoRow.laid) (((Rows.OpenSpec.upto Rows.kvstoreCompactedSpec).at F).post enc prog Tryz.f5 false true false false):=by
 obtain⟨places,hx⟩:=iU os enc;refine returnsInHanded_of_row (C:=Tryz.checked) (s:=Rows.OpenSpec.upto Rows.kvstoreCompactedSpec) own started Zk func5
  (witness_row_atRef (enc:=enc) (C:=Tryz.checked) false (Jz os) #[.slice none 0 0] rfl Zk Zk Zk
   (OpenSpec.preRow_of_cond 8 hx Zk (λk hk=>by cases hk;kernel_rfl) Zk (Wq os))) ?_
 intro W base args ds gs before hval hW _ hcond _ hL _ _;exact Wp H enc W base args ds gs before hval hW (hcond _ rfl) hL
theorem jo {a b:Bool}(h:a=true)(k:b=true):(a&&b)=true:=by rw[h,k];rfl
theorem closed :joinedFacts Tryz.pinned.checked.prog 5 Tryz.f5 (Rows.OpenSpec.upto Rows.kvstoreCompactedSpec).bare Rows.kvstoreCompactedUptoRow=true:=by
 unfold joinedFacts;repeat' (with_reducible refine jo ?_ ?_)
 all_goals as_aux_lemma=>kernel_rfl
theorem said :Rows.KvstoreCompactedUptoSaid:=
 OpenClaim.holds_of_cond 5 Tryz.f5 rfl rfl rfl rfl rfl rfl rfl ⟨rfl,rfl,rfl,rfl,rfl⟩ rfl rfl rfl rfl rfl Zk func5 closed
  (of_decide_eq_true Zk) (by unfold Func.isWrapper;first|(rw[if_pos (by decide+kernel)];kernel_rfl)|(rw[if_neg (by decide+kernel)];exact⟨rfl,rfl⟩))
  (λos started H enc _ F=>by rw[OpenClaim.pre_eq_preRow];exact gA os started H enc F)
theorem plain (f:FuncId)(fn:Func)(hf:Tryz.pinned.checked.prog.funcNamed "trolley/trolleylaw09.KvstoreCompacted" =some f)(hfn:Tryz.pinned.checked.prog.funcs[f]? =some fn):
  true=Tryz.pinned.checked.prog.looks []/\∀(j:Nat) t,fn.params[j]? =some t->Tryz.pinned.checked.prog.wantsStandIn t=false:=by
 obtain rfl:f=5:=Option.some.inj ((show prog.funcNamed "trolley/trolleylaw09.KvstoreCompacted" =some 5 by kernel_rfl).symm.trans hf)|>.symm
 obtain rfl:fn=Tryz.f5:=(Option.some.inj (func5.symm.trans hfn)).symm;refine⟨by kernel_rfl,λj t ht=> ?_⟩;rw[Tryz.params5]at ht;have h9:=Array.mem_of_getElem? ht;simp at h9;show prog.wantsStandIn t=false
 rcases h9 with rfl<;>kernel_rfl
theorem proved :Rows.KvstoreCompactedUptoCardSaid:=
 Claim7.holds_tied_plain_at .later [] _ _ _ _ said (λ_ h=>by cases h) Zk (λ_ h=>by cases h) kvstoreCompactedUpto_row_tie rfl ⟨rfl,rfl⟩ Zk rfl plain Zk
end Go.Proofs.YtjkaicjmfgekjaaGreatDoor.kvstoreCompacted
