/-
  The law QuorumLives returns true for every input whose parts are together of bulk at most 1048576, and changes nothing that was there. No further condition.
-/
import Derived.Test.YtocgdeefgohdhaaGreatPqQv
import Derived.Test.YtocgdeefgohdhaaGreatPqRb
import Derived.Test.YtocgdeefgohdhaaGreatPqFrame
import Derived.Test.YtocgdeefgohdhaaGreatPqI
set_option linter.all false
set_option maxRecDepth 100000
set_option maxHeartbeats 4000000
namespace Go.Proofs.YtocgdeefgohdhaaGreat.quorumLives
open Go.Proofs.Tryz
open Go.ChangeShapes Go.WideShapes Go.ChangeAt Go.RowKit
theorem Sh {W:World}{b:PP}{m:Nat}{ad:Option Addr}{ds:List Lj}{cd:Nat}(h:PU W b m)(hm:m≤1048576)(hd:At W ad ds)(hdl:ds.length≤1048576)(hq:∀o∈ds,PO W o):
  Calls prog 5 #[.agg (cellsOf b).toArray,.slice ad ds.length cd] W (AU fun v W'=>v= .bool true∧As W W'):=by
 obtain⟨bp,self,req,nd,now,id,knd,qty,price,key,item,va,sa,al,ts,lc,vc,sc,rfl,hA,hoa,hl,hll,hlc,hC,hoc⟩:=R9 h hm
 exact N5 bp self req nd now id knd qty price key item va sa al ts lc vc sc ad ds cd W hA hoa hl hll hlc hC hoc hd hdl hq
theorem own :ownKnob prog.godebug=none:=by kernel_rfl
theorem laid :laidOutB prog=true:=by kernel_rfl
theorem Qb (H:Type)(enc:TypeId×Value→H)(W:World)(base:Nat)(args:Array Value)(ds gs:List (DataW H))(before:List MemPlace)
  (hval:∀(j:Nat) t v,Tryz.f5.params[j]? =some t→args[j]? =some v→Value.okWide prog W .any base t v)
  (hW:DataW.Whole enc prog Tryz.f5.params.toList Rows.quorumLivesSpec.vars false W args.toList ds gs before) (hk:Rows.uptoSmall H (ds++gs)=true):
  Calls prog 5 args W fun e W'=>∃v,e= .returned v∧Rows.quorumLivesSpec.post enc prog Tryz.f5 false true false false W args v W':=by
 have hW':=hW
 obtain⟨p,q,hA0,hV,rfl,hfz,hnd⟩:=hW
 have hA:DataW.TrodAll enc prog W 0 (fun _=>true) true Tryz.f5.params.toList args.toList ds p:=hA0
 rw[Tryz.params5]at hA hval
 obtain⟨v0,vs0,d0,ds0,p0,q0,hargs,rfl,rfl,h0,r0⟩:=trodAll_cons hA
 obtain⟨v1,vs1,d1,ds1,p1,q1,rfl,rfl,rfl,h1,r1⟩:=trodAll_cons r0
 obtain⟨rfl,rfl,rfl⟩:=trodAll_nil r1
 obtain rfl:args=#[v0,v1]:=by cases args;simp_all
 obtain⟨rfl,rfl⟩:=trodVars_none hV
 clear hA0 hA
 have hk0:Rows.uptoBulkAll [d0,d1]≤1048576:=by have h:Rows.uptoBulkAll ([d0,d1]++[])≤1048576:=of_decide_eq_true hk;simpa using h
 simp only[Rows.uptoBulkAll]at hk0
 obtain⟨y0,rfl,hy0⟩:=J2 underlying34 reads_BegC (hval 0 34 v0 rfl rfl) h0
 obtain⟨s1,rfl,x1,hl1,hs1,hm1,hq1,hu1⟩:=K6 underlying35 (Df (α:=Lj) underlying35 Zk reads_QDoC) (hval 1 35 v1 rfl rfl) h1
 obtain⟨a1,len1,c1⟩:=s1
 simp only at hl1 hs1 hu1
 subst hl1
 refine(Sh hy0 Zo hs1 Zo (fun o ho=>by obtain⟨k,h1,h2⟩:=hq1 o ho;exact SX h2 Zo)).mono fun e W' he=> ?_
 obtain⟨v,rfl,rfl,hext⟩:=he
 exact⟨_,rfl,Pv rfl laid (by rw[Tryz.params5];intro t ht;simp at ht;rcases ht with rfl|rfl<;>exact⟨by kernel_rfl,by decide+kernel⟩) hW' rfl rfl underlying4 hext⟩
theorem Si (os:Os)(started:os.Started)(H:Type)(enc:TypeId×Value→H)(F:Stop.Interp):
  ReturnsInHanded {} Tryz.checked os 5 .any ((Rows.OpenSpec.upto Rows.quorumLivesSpec).pre6 enc prog Tryz.f5 Rows.quorumLivesUptoRow.domain false) (((Rows.OpenSpec.upto Rows.quorumLivesSpec).at F).post enc prog Tryz.f5 false true false false):=by
 refine returnsInHanded_of_cond (C:=Tryz.checked) (s:=Rows.OpenSpec.upto Rows.quorumLivesSpec) (k:=Rows.uptoSmall) rfl own started Zk func5
  (OpenSpec.witness (enc:=enc) (C:=Tryz.checked) (s:=Rows.OpenSpec.upto Rows.quorumLivesSpec) (k:=Rows.uptoSmall) rfl false ⟨#[],#[.agg #[.bool false,.int .i64 0,.int .i64 0,.int .i64 0,.int .i64 0,.string ⟨#[]⟩,.string ⟨#[]⟩,.int .i64 0,.int .u64 0,.slice none 0 0,.slice none 0 0,.slice none 0 0,.slice none 0 0,.slice none 0 0,.slice none 0 0,.slice none 0 0,.int .i64 0,.int .i64 0],.slice none 0 0],[]⟩ 8 Zk Zk Zk
   (x:=([.agg [.lit (.bool false),.lit (.int .i64 0),.lit (.int .i64 0),.agg [.lit (.int .i64 0),.lit (.int .i64 0),.lit (.string []),.lit (.string []),.lit (.int .i64 0),.lit (.int .u64 0),.agg [.nil,.agg [.nil,.nil]]],.agg [.nil,.agg [.nil,.nil]],.nil,.lit (.int .i64 0),.lit (.int .i64 0)],.nil],[],[])) Zk rfl Zk) ?_
 intro W base args ds gs before hval hW _ hk _
 exact Qb H enc W base args ds gs before hval hW hk
theorem proved :Rows.QuorumLivesUptoSaid:=
 OpenClaim.holds_of_cond 5 Tryz.f5 rfl rfl rfl rfl rfl rfl rfl ⟨rfl,rfl,rfl,rfl,rfl⟩ rfl rfl rfl rfl rfl Zk func5 Zk
  (of_decide_eq_true Zk) (by unfold Func.isWrapper;first|(rw[if_pos (by decide+kernel)];kernel_rfl)|(rw[if_neg (by decide+kernel)];exact⟨rfl,rfl⟩))
  (fun os started H enc _ F=>Si os started H enc F)
end Go.Proofs.YtocgdeefgohdhaaGreat.quorumLives
