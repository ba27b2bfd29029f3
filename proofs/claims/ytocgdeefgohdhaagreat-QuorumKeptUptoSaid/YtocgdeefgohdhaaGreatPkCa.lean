/-
  Ca, Cb, Cc
-/
import Derived.Test.YtocgdeefgohdhaaGreatRows
import Derived.Test.YtocgdeefgohdhaaGreatPkWb
import Derived.Test.YtocgdeefgohdhaaGreatPkI
set_option linter.all false
set_option maxRecDepth 100000
set_option maxHeartbeats 4000000
namespace Go.Proofs.YtocgdeefgohdhaaGreat
attribute [local irreducible] RD RS St1 RL RA RT RT1 Run
structure ActorC where
 node:Int
 life:Int
instance : Enc ActorC:=Enc.struct (fun t=>[.int .i64 t.node,.int .i64 t.life]) 2 (fun _=>rfl) (fun _ v hv=>by simp at hv;rcases hv with rfl|rfl<;>rfl) (by decide)
theorem ActorC.ext' {a b:ActorC}(h0:a.node=b.node)(h1:a.life=b.life):a=b:=by cases a;cases b;simp_all
instance : DecidableEq ActorC:=fun a b=>if h:a.node=b.node∧a.life=b.life then isTrue (ActorC.ext' h.1 h.2)else isFalse (fun e=>h (by subst e;exact⟨rfl,rfl⟩))
theorem eqd_ActorC (m:Nat)(a b:ActorC)(w:World):(Op.equalIn (m+2) 165 (.agg #[.int .i64 a.node,.int .i64 a.life]) (.agg #[.int .i64 b.node,.int .i64 b.life])).run Tryz.prog w= .ok (decide (a=b)) w:=by
 have h:=run_equalIn_struct (P:=Tryz.prog) w (m+1) 165 #[.int .i64 a.node,.int .i64 a.life] #[.int .i64 b.node,.int .i64 b.life] Tryz.underlying165 (by kernel_rfl)
 have h2:=(run_eqFields_cons (P:=Tryz.prog) (d:=m+1) (xs:=#[.int .i64 a.node,.int .i64 a.life]) (ys:=#[.int .i64 b.node,.int .i64 b.life]) (fd:=(Tryz.prog.fieldsOf 165).toList[0]) (fs:=[(Tryz.prog.fieldsOf 165).toList[1]]) (r:=a.node==b.node) (by kernel_rfl) (run_part ty3 rfl) (run_part ty3 rfl) (fun w=>run_equalIn_int w m 3 .i64 .i64 a.node b.node Tryz.underlying3) (run_eqFields_cons (P:=Tryz.prog) (d:=m+1) (xs:=#[.int .i64 a.node,.int .i64 a.life]) (ys:=#[.int .i64 b.node,.int .i64 b.life]) (fd:=(Tryz.prog.fieldsOf 165).toList[1]) (fs:=[]) (r:=a.life==b.life) (by kernel_rfl) (run_part ty3 rfl) (run_part ty3 rfl) (fun w=>run_equalIn_int w m 3 .i64 .i64 a.life b.life Tryz.underlying3) (run_eqFields_nil (m+1) _ _))) w
 refine h.trans (h2.trans ?_)
 congr 1
 rw[Bool.eq_iff_iff]
 simp only[Bool.and_eq_true,beq_iff_eq,and_true,decide_eq_true_eq,bytes_eq]
 exact⟨fun h=>ActorC.ext' h.1 h.2,fun h=>by subst h;exact⟨rfl,rfl⟩⟩
theorem eq_ActorC (a b:ActorC)(w:World):(Op.equalIn 10000 165 (.agg #[.int .i64 a.node,.int .i64 a.life]) (.agg #[.int .i64 b.node,.int .i64 b.life])).run Tryz.prog w= .ok (decide (a=b)) w:=eqd_ActorC 9998 a b w
def smD (d:DotC):Prop:=(0≤d.node∧d.node≤4611686018427387904)∧(0≤d.life∧d.life≤4611686018427387904)∧(0≤d.count∧d.count≤4611686018427387904)
def mayD (d:DotC):Prop:=(0≤d.node∧d.node<8)∧(1≤d.life∧d.life≤1099511627776)∧(1≤d.count∧d.count≤1099511627776)
instance : DecidablePred mayD:=fun d=>by unfold mayD;infer_instance
theorem mayD.sm {d:DotC}(h:mayD d):smD d:=by unfold mayD at h;unfold smD;omega
abbrev MarkC.d (m:MarkC):DotC:=⟨m.node,m.life,m.count⟩
abbrev DotC.m (d:DotC):MarkC:=⟨d.node,d.life,d.count⟩
abbrev MarkC.z (m:MarkC):DotC:=⟨m.node,m.life,0⟩
abbrev DotC.a (d:DotC):ActorC:=⟨d.node,d.life⟩
theorem mayD.z {m:MarkC}(h:mayD m.d):smD m.z:=by simp only[mayD,MarkC.d,smD,MarkC.z]at*;omega
def ordD (a b:DotC):Int:=if a.node=b.node then(if a.life=b.life then a.count-b.count else a.life-b.life)else a.node-b.node
def ltD (a b:DotC):Prop:=a.node<b.node∨a.node=b.node∧(a.life<b.life∨a.life=b.life∧a.count<b.count)
instance (a b:DotC):Decidable (ltD a b):=by unfold ltD;infer_instance
def ltM (a b:MarkC):Prop:=a.node<b.node∨a.node=b.node∧a.life<b.life
instance (a b:MarkC):Decidable (ltM a b):=by unfold ltM;infer_instance
theorem DotC.eta {a b:DotC}(h1:a.node=b.node)(h2:a.life=b.life)(h3:a.count=b.count):a=b:=by cases a;cases b;simp_all
theorem ordD_lt {a b:DotC}:ordD a b<0↔ltD a b:=by
 unfold ordD ltD
 split
 ·split<;>constructor<;>omega
 ·constructor<;>omega
theorem ordD_ge {a b:DotC}:0≤ordD a b↔¬ltD a b:=by rw[←ordD_lt];omega
theorem ordD_z {a b:MarkC}:0≤ordD a.z b.z↔¬ltM a b:=by rw[ordD_ge];simp only[ltD,ltM,MarkC.z];omega
theorem ltD_trans {a b c:DotC}(h1:ltD a b)(h2:ltD b c):ltD a c:=by unfold ltD at*;omega
theorem ltD_irr {a:DotC}:¬ltD a a:=by unfold ltD;omega
theorem ltD_tri {a b:DotC}(h:¬ltD a b)(h2:¬ltD b a):a=b:=by unfold ltD at*;exact DotC.eta (by omega) (by omega) (by omega)
theorem ltM_trans {a b c:MarkC}(h1:ltM a b)(h2:ltM b c):ltM a c:=by unfold ltM at*;omega
theorem ltM_irr {a:MarkC}:¬ltM a a:=by unfold ltM;omega
def mkN (ms:List MarkC)(a:ActorC):Int:=match ms.find? (fun m=>decide (m.d.a=a))with|some m=>m.count|none=>0
theorem mkN_at {ms:List MarkC}{a:ActorC}{i:Nat}{m:MarkC}(hx:ms[i]? =some m)(ha:m.d.a=a)(hno:NoB (fun m=>decide (m.d.a=a)) ms i):mkN ms a=m.count:=by
 have:ms.find? (fun m=>decide (m.d.a=a))=some m:=by
  rw[List.find?_eq_some_iff_getElem]
  obtain⟨hi,rfl⟩:=List.getElem?_eq_some_iff.1 hx
  exact⟨decide_eq_true ha,i,hi,rfl,fun j hj=>by
   have h:=hno j _ hj (List.getElem?_eq_getElem (by omega))
   have h':¬(ms[j].d.a=a):=of_decide_eq_false h
   simp[h']⟩
 rw[mkN,this]
theorem mkN_no {ms:List MarkC}{a:ActorC}{i:Nat}(hno:NoB (fun m=>decide (m.d.a=a)) ms i)(hi:ms.length≤i):mkN ms a=0:=by
 have:ms.find? (fun m=>decide (m.d.a=a))=none:=by
  rw[List.find?_eq_none]
  intro x hx
  obtain⟨j,hj,rfl⟩:=List.getElem_of_mem hx
  have h:=hno j _ (by omega) (List.getElem?_eq_getElem hj)
  simp only at h
  simp[h]
 rw[mkN,this]
def okM (ms:List MarkC)(i:Nat):Prop:=∀m,ms[i]? =some m→mayD m.d∧(0<i→∀x,ms[i-1]? =some x→ltM x m)
def okC (ms:List MarkC)(cl:List DotC)(i:Nat):Prop:=∀d,cl[i]? =some d→mayD d∧(0<i→∀x,cl[i-1]? =some x→ltD x d)∧mkN ms d.a+1<d.count
def CanX (ms:List MarkC)(cl:List DotC):Prop:=ms.length≤64∧cl.length≤64∧(∀i,okM ms i)∧∀i,okC ms cl i
open Classical in
noncomputable def canX (ms:List MarkC)(cl:List DotC):Bool:=decide (CanX ms cl)
theorem canX_iff {ms:List MarkC}{cl:List DotC}:canX ms cl=true↔CanX ms cl:=by simp[canX]
theorem canX_no {ms:List MarkC}{cl:List DotC}(h:¬CanX ms cl):canX ms cl=false:=by simp[canX,h]
theorem canX_yes {ms:List MarkC}{cl:List DotC}(h:CanX ms cl):canX ms cl=true:=canX_iff.2 h
def Cov (ms:List MarkC)(cl:List DotC)(d:DotC):Prop:=(1≤d.count∧d.count≤mkN ms d.a)∨(1≤d.count∧d∈cl)
instance (ms :List MarkC)(cl:List DotC)(d:DotC):Decidable (Cov ms cl d):=by unfold Cov;infer_instance
section
variable {ms :List MarkC}{cl:List DotC}{i:Nat}{m x:MarkC}{d y:DotC}
theorem CanX.may (h:CanX ms cl)(hm:m∈ms):mayD m.d:=by
 obtain⟨j,hj,rfl⟩:=List.getElem_of_mem hm
 exact(h.2.2.1 j _ (List.getElem?_eq_getElem hj)).1
theorem CanX.mayC (h:CanX ms cl)(hd:d∈cl):mayD d:=by
 obtain⟨j,hj,rfl⟩:=List.getElem_of_mem hd
 exact(h.2.2.2 j _ (List.getElem?_eq_getElem hj)).1
theorem mkN_mem {a:ActorC}(h:mkN ms a≠0):∃m∈ms,m.d.a=a∧m.count=mkN ms a:=by
 unfold mkN at*
 split at h
 ·rename_i m hm
  exact⟨m,List.mem_of_find?_eq_some hm,by simpa using List.find?_some hm,by simp⟩
 ·exact absurd rfl h
theorem CanX.cov (h:CanX ms cl)(hd:Cov ms cl d):mayD d:=by
 rcases hd with⟨h1,h2⟩|⟨-,hd⟩
 ·obtain⟨m,hm,ha,e⟩:=mkN_mem (ms:=ms) (a:=d.a) (by omega)
  have:=h.may hm
  simp only[mayD,MarkC.d,DotC.a,ActorC.mk.injEq]at*
  omega
 ·exact h.mayC hd
theorem covers_ite :(decide (1≤d.count)&&(decide (d.count≤mkN ms d.a)||cl.any (d==·)))=decide (Cov ms cl d):=by
 rw[Bool.eq_iff_iff,Bool.and_eq_true,Bool.or_eq_true,decide_eq_true_eq,decide_eq_true_eq,decide_eq_true_eq,List.any_eq_true]
 simp only[Cov,beq_iff_eq]
 constructor
 ·rintro⟨h1,h2|⟨x,hx,rfl⟩⟩
  ·exact .inl ⟨h1,h2⟩
  ·exact .inr ⟨h1,hx⟩
 ·rintro(⟨h1,h2⟩|⟨h1,h2⟩)
  ·exact⟨h1,.inl h2⟩
  ·exact⟨h1,.inr ⟨d,h2,rfl⟩⟩
end
def CovR (ms:List MarkC)(cl:List DotC)(d:DotC):Prop:=(1≤d.count∧d.count≤mkN ms d.a)∨d∈cl
instance (ms :List MarkC)(cl:List DotC)(d:DotC):Decidable (CovR ms cl d):=by unfold CovR;infer_instance
theorem covR_no {cl:List DotC}{d:DotC}{i:Nat}(hno:NoB (fun x=>decide (x=d)) cl i)(hi:cl.length≤i):¬d∈cl:=fun h=>by
 obtain⟨j,hj,rfl⟩:=List.getElem_of_mem h
 have h:=hno j _ (by omega) (List.getElem?_eq_getElem hj)
 simp at h
theorem CanX.covR {ms:List MarkC}{cl:List DotC}{d:DotC}(h:CanX ms cl):CovR ms cl d↔Cov ms cl d:=by
 unfold CovR Cov
 constructor
 ·rintro(h1|h1)
  ·exact .inl h1
  ·exact .inr ⟨(h.mayC h1).2.2.1,h1⟩
 ·rintro(h1|h1)
  ·exact .inl h1
  ·exact .inr h1.2
attribute [local irreducible] X
theorem cnode_ (n:Int)(w:World):
  Calls Tryz.prog 109 #[.int .i64 (n)] w (Ret (fun v w'=>v= .bool (decide (0≤n)&&decide (n<8))∧Ext w w')):=by
 refine calls_run (n:=9) Tryz.func109 rfl rfl rfl ?_;refine jG ?_;refine jV (x_and rfl rfl rfl) ?_;refine jG ?_;refine jJ Tryz.func109 ?_;exact⟨_,rfl,rfl,(Keeps.refl _ w)⟩
theorem clife_ (n:Int)(w:World):
  Calls Tryz.prog 110 #[.int .i64 (n)] w (Ret (fun v w'=>v= .bool (decide (1≤n)&&decide (n≤1099511627776))∧Ext w w')):=by
 refine calls_run (n:=9) Tryz.func110 rfl rfl rfl ?_;refine jG ?_;refine jV (x_and rfl rfl rfl) ?_;refine jG ?_;refine jJ Tryz.func110 ?_;exact⟨_,rfl,rfl,(Keeps.refl _ w)⟩
theorem ccount_ (n:Int)(w:World):
  Calls Tryz.prog 111 #[.int .i64 (n)] w (Ret (fun v w'=>v= .bool (decide (1≤n)&&decide (n≤1099511627776))∧Ext w w')):=by
 refine calls_run (n:=9) Tryz.func111 rfl rfl rfl ?_;refine jG ?_;refine jV (x_and rfl rfl rfl) ?_;refine jG ?_;refine jJ Tryz.func111 ?_;exact⟨_,rfl,rfl,(Keeps.refl _ w)⟩
theorem may_ (d:DotC)(w:World):
  Calls Tryz.prog 96 #[.agg #[.int .i64 ((d).node),.int .i64 ((d).life),.int .i64 ((d).count)]] w (Ret (fun v w'=>v= .bool (decide (mayD d))∧Ext w w')):=by
 refine calls_run (n:=16) Tryz.func96 rfl rfl rfl ?_;refine jG ?_;refine jR<|jB ?_;intro a4 a7 a1 a0 a5;have:w.heap.size≤a4:=a1;clear a1;have K0:=(a5:Ext w _);refine jG ?_;refine jR<|jC (cnode_ ((d).node) _) ?_;rintro _ a8 ⟨rfl,a2⟩;replace a0:=a0.ext a2;refine jG ?_;refine RL.gcall (vals:=[.int .i64 ((d).life)]) (wantedT rfl rfl rfl rfl) en110.h (fun hg=>(mcons (gvr hg) mnil)) (fun hg=>(clife_ ((d).life) _)) ?_;intro a9 a3;refine jV (x_and rfl rfl rfl) ?_;replace a0:=a0.ext a3;refine jG ?_;refine RL.gcall (vals:=[.int .i64 ((d).count)]) (wantedT rfl rfl rfl rfl) en111.h (fun hg=>(mcons (gvr hg) mnil)) (fun hg=>(ccount_ ((d).count) _)) ?_;intro aa a6;refine jV (x_and rfl rfl rfl) ?_;refine jG ?_;refine jJ Tryz.func96 ?_;replace K0:=((K0.ext a2).ext a3).ext a6;exact⟨_,rfl,congrArg Value.bool (by rw[Bool.eq_iff_iff];simp only[mayD,Bool.and_eq_true,decide_eq_true_eq,and_assoc]),K0⟩
theorem rmay_ (d:DotC)(w:World):
  Calls Tryz.prog 73 #[.agg #[.int .i64 ((d).node),.int .i64 ((d).life),.int .i64 ((d).count)]] w (Ret (fun v w'=>v= .bool (decide (mayD d))∧Ext w w')):=by
 refine calls_run (n:=31) Tryz.func73 rfl rfl rfl ?_;refine jG ?_;refine jR<|jB ?_;intro a1 a3 a0 a4 a2;have:w.heap.size≤a1:=a0;clear a0;have K0:=(a2:Ext w _);refine jG ?_;refine jV (x_and rfl rfl rfl) ?_;refine jG ?_;refine jV (x_and rfl rfl rfl) ?_;refine jG ?_;refine jV (x_and rfl rfl rfl) ?_;refine jG ?_;refine jV (x_and rfl rfl rfl) ?_;refine jG ?_;refine jV (x_and rfl rfl rfl) ?_;refine jG ?_;refine jJ Tryz.func73 ?_;exact⟨_,rfl,congrArg Value.bool (by rw[Bool.eq_iff_iff];simp only[mayD,Bool.and_eq_true,decide_eq_true_eq,and_assoc]),K0⟩
theorem first_ (m:MarkC)(w:World):
  Calls Tryz.prog 97 #[.agg #[.int .i64 ((m).node),.int .i64 ((m).life),.int .i64 ((m).count)]] w (Ret (fun v w'=>v= .agg #[.int .i64 ((m.d).node),.int .i64 ((m.d).life),.int .i64 ((m.d).count)]∧Ext w w')):=by
 refine calls_run (n:=4) Tryz.func97 rfl rfl rfl ?_;refine jG ?_;refine jR<|jB ?_;intro a5 a8 a3 a0 a6;have:w.heap.size≤a5:=a3;clear a3;have K0:=(a6:Ext w _);refine jR<|jA ?_;intro a9 aa a1 a2 a4;have ab:=ltLe a0.lt a1;have:=Nat.le_trans K0.size a1;clear a1;replace a0:=a0.ext a4;refine jG ?_;refine jR<|jS a2 ?_;intro ac a2 a7;refine jG ?_;refine Run.retC (cs:=#[.int .i64 ((m).node),.int .i64 ((m).life),.int .i64 ((m).count)]) Tryz.func97 rfl ty87 rfl rfl a2.cl ?_;replace K0:=(K0.ext a4).n1 a7;exact⟨_,rfl,rfl,K0⟩
theorem actor_ (d:DotC)(w:World):
  Calls Tryz.prog 100 #[.agg #[.int .i64 ((d).node),.int .i64 ((d).life),.int .i64 ((d).count)]] w (Ret (fun v w'=>v= .agg #[.int .i64 ((d.a).node),.int .i64 ((d.a).life)]∧Ext w w')):=by
 refine calls_run (n:=8) Tryz.func100 rfl rfl rfl ?_;refine jG ?_;refine jR<|jB ?_;intro a5 a8 a3 a0 a6;have:w.heap.size≤a5:=a3;clear a3;have K0:=(a6:Ext w _);refine jR<|jA ?_;intro a9 aa a1 a2 a4;have ab:=ltLe a0.lt a1;have:=Nat.le_trans K0.size a1;clear a1;replace a0:=a0.ext a4;refine jG ?_;refine jV (x_build (cells:=#[.int .i64 ((d).node),.int .i64 ((d).life)]) (by kernel_rfl)) ?_;refine jR<|jS a2 ?_;intro ac a2 a7;refine jG ?_;refine Run.retC (cs:=#[.int .i64 ((d).node),.int .i64 ((d).life)]) Tryz.func100 rfl ty165 rfl rfl a2.cl ?_;replace K0:=(K0.ext a4).n1 a7;exact⟨_,rfl,rfl,K0⟩
theorem rmaym_ (m:MarkC)(w:World):
  Calls Tryz.prog 72 #[.agg #[.int .i64 ((m).node),.int .i64 ((m).life),.int .i64 ((m).count)]] w (Ret (fun v w'=>v= .bool (decide (mayD m.d))∧Ext w w')):=by
 refine calls_run (n:=5) Tryz.func72 rfl rfl rfl ?_;refine jG ?_;refine jR<|jB ?_;intro a1 a4 a0 a5 a2;have:w.heap.size≤a1:=a0;clear a0;have K0:=(a2:Ext w _);refine jG ?_;refine jR<|jC (rmay_ (MarkC.d m) _) ?_;rintro _ a6 ⟨rfl,a3⟩;refine jG ?_;refine jJ Tryz.func72 ?_;replace K0:=K0.ext a3;exact⟨_,rfl,rfl,K0⟩
theorem order_ (a b:DotC)(w:World)(ha:smD a)(hb:smD b):
  Calls Tryz.prog 98 #[.agg #[.int .i64 ((a).node),.int .i64 ((a).life),.int .i64 ((a).count)],.agg #[.int .i64 ((b).node),.int .i64 ((b).life),.int .i64 ((b).count)]] w (Ret (fun v w'=>v= .int .i64 (ordD a b)∧Ext w w')):=by
 obtain⟨ha1,ha2,ha3⟩:=ha;obtain⟨hb1,hb2,hb3⟩:=hb;refine calls_run (n:=32) Tryz.func98 rfl rfl rfl ?_;refine jG ?_;refine jR<|jB ?_;intro a4 a6 a2 a0 a5;have:w.heap.size≤a4:=a2;clear a2;have K0:=(a5:Ext w _);refine jR<|jB ?_;intro a7 a8 a1 a9 a3;have aa:=ltLe a0.lt a1;have:=Nat.le_trans K0.size a1;clear a1;replace a0:=a0.ext a3;refine jG ?_;replace K0:=K0.ext a3;refine jF ?_ ?_
 ·intro hc5
  refine jG ?_;refine jV (x_sub rfl rfl (by omega) (by omega)) ?_;refine jG ?_;refine jJ Tryz.func98 ?_;exact⟨_,rfl,by rw[ordD,if_neg hc5],K0⟩
 ·intro hc5
  refine jG ?_;refine jF ?_ ?_
  ·intro hc16
   refine jG ?_;refine jV (x_sub rfl rfl (by omega) (by omega)) ?_;refine jG ?_;refine jJ Tryz.func98 ?_;exact⟨_,rfl,by rw[ordD,if_pos hc5,if_neg hc16],K0⟩
  ·intro hc16
   refine jG ?_;refine jV (x_sub rfl rfl (by omega) (by omega)) ?_;refine jG ?_;refine jJ Tryz.func98 ?_;exact⟨_,rfl,by rw[ordD,if_pos hc5,if_pos hc16],K0⟩
theorem below_ (a b:DotC)(w:World):
  Calls Tryz.prog 74 #[.agg #[.int .i64 ((a).node),.int .i64 ((a).life),.int .i64 ((a).count)],.agg #[.int .i64 ((b).node),.int .i64 ((b).life),.int .i64 ((b).count)]] w (Ret (fun v w'=>v= .bool (decide (ltD a b))∧Ext w w')):=by
 refine calls_run (n:=30) Tryz.func74 rfl rfl rfl ?_;refine jG ?_;refine jR<|jB ?_;intro a4 a6 a2 a0 a5;have:w.heap.size≤a4:=a2;clear a2;have K0:=(a5:Ext w _);refine jR<|jB ?_;intro a7 a8 a1 a9 a3;have aa:=ltLe a0.lt a1;have:=Nat.le_trans K0.size a1;clear a1;replace a0:=a0.ext a3;refine jG ?_;replace K0:=K0.ext a3;refine jF ?_ ?_
 ·intro hc9
  refine jG ?_;refine jJ Tryz.func74 ?_;exact⟨_,rfl,congrArg Value.bool (by rw[decide_eq_decide];unfold ltD;omega),K0⟩
 ·intro hc9
  refine jG ?_;refine jF ?_ ?_
  ·intro hc19
   refine jG ?_;refine jJ Tryz.func74 ?_;exact⟨_,rfl,congrArg Value.bool (by rw[decide_eq_decide];unfold ltD;omega),K0⟩
  ·intro hc19
   refine jG ?_;refine jJ Tryz.func74 ?_;exact⟨_,rfl,congrArg Value.bool (by rw[decide_eq_decide];unfold ltD;omega),K0⟩
theorem mark_ (am:Option Addr)(ms:List MarkC)(cm:Nat)(ac:Option Addr)(cl:List DotC)(cc:Nat)(a:ActorC)(w:World)(hs:SlOf w am ms)(ht:SlOf w ac cl)(hl:ms.length≤4294967295)(hl2:cl.length≤4294967295):
  Calls Tryz.prog 99 #[.agg #[.slice (am) (ms.length) (cm),.slice (ac) (cl.length) (cc)],.agg #[.int .i64 ((a).node),.int .i64 ((a).life)]] w (Ret (fun v w'=>v= .int .i64 (mkN ms a)∧Ext w w')):=by
 refine calls_run (n:=22) Tryz.func99 rfl rfl rfl ?_;refine jG ?_;refine jR<|jB ?_;intro ab ai ad a1 ah;have:w.heap.size≤ab:=ad;clear ad;have K0:=(ah:Ext w _);refine jR<|jB ?_;intro ae aj a8 a0 af;have ak:=ltLe a1.lt a8;have:=Nat.le_trans K0.size a8;clear a8;replace a1:=a1.ext af;refine jG ?_;replace K0:=K0.ext af;refine Run.loop (ι:=Nat) (fun i ρ' w'=>Holds ρ' [(3,jp ae),(8,.slice (am) (ms.length) (cm)),(9,.int .i64 (((ms.length:Nat):Int))),(10,.int .i64 (((i:Nat):Int)))]∧Ext w w'∧(Blk w' ab [.slice (am) (ms.length) (cm),.slice (ac) (cl.length) (cc)] 27)∧(Blk w' ae [.int .i64 ((a).node),.int .i64 ((a).life)] 165)∧(i≤ms.length)∧(NoB (fun m=>decide (m.d.a=a)) ms i)) (fun i=>ms.length-i) 0 ?_ ?_
 ·refine⟨⟨rfl,rfl,rfl,rfl,trivial⟩,K0,a1,a0,?_,?_⟩
  ·omega
  ·exact NoB.zero _ _
 clear a1 a0;clear K0;rintro i al an ⟨ag,K0,a1,a0,hi,hno⟩ ih1;obtain⟨ρ₀,rfl⟩:=ag.ex;clear ag;refine jG ?_;refine jF ?_ ?_
 ·intro hc11
  obtain⟨ao,ap,m,hx,aq,a4⟩:=hs.eo i;have hc_18_lt:=a4.lt;replace a4:=a4.ext K0;refine jG ?_;refine jR<|jA ?_;intro ar au a3 a2 a9;have av:=ltLe a1.lt a3;have aw:=ltLe a0.lt a3;have ax:=ltLe a4.lt a3;have:=Nat.le_trans K0.size a3;clear a3;refine jR<|jS a2 ?_;intro ay a2 aa;refine jG ?_;refine Run.drawS [] [1000,1003,2001,2002,4] ?_;intro az a5;replace a0:=((a0.ext a9).kp aa).ext a5;replace a2:=a2.ext a5;refine jM (jb a0 (jb a2 Jn)) ?_;refine jG ?_;refine jU rfl<|jC (first_ m _) ?_;rintro _ aA ⟨rfl,a6⟩;replace a0:=a0.ext a6;replace a2:=a2.ext a6;refine jG ?_;refine jU rfl<|jC (actor_ (MarkC.d m) _) ?_;rintro _ aB ⟨rfl,a7⟩;replace a0:=a0.ext a7;replace a2:=a2.ext a7;refine jG ?_;refine jP ?_ (hx:=by exact fun _=>(x_eqA (by kernel_rfl) rfl rfl (eq_ActorC (DotC.a (MarkC.d m)) a)));refine jG ?_;replace a1:=((((a1.ext a9).kp aa).ext a5).ext a6).ext a7;replace K0:=((((K0.ext a9).n1 aa).ext a5).ext a6).ext a7;refine jF ?_ ?_
  ·intro hc18
   refine jG ?_;refine jJ Tryz.func99 ?_;exact⟨_,rfl,by rw[mkN_at hx hc18 hno],K0⟩
  ·intro hc18
   refine jG ?_;refine jV (litI (c:=((i+1:Nat):Int)) (x_add rfl rfl (by omega) (by omega)) rfl) ?_;refine jG ?_;refine ih1 (i+1) _ _ ?_ (by omega);refine⟨⟨rfl,rfl,rfl,rfl,trivial⟩,K0,a1,a0,?_,?_⟩
   ·omega
   ·exact hno.step hx (decide_eq_false (hc18))
 ·intro hc11
  refine jG ?_;refine jJ Tryz.func99 ?_;exact⟨_,rfl,by rw[mkN_no hno (by omega)],K0⟩
theorem rmark_ (am:Option Addr)(ms:List MarkC)(cm:Nat)(n l:Int)(w:World)(hs:SlOf w am ms)(hl:ms.length≤4294967295):
  Calls Tryz.prog 49 #[.slice (am) (ms.length) (cm),.int .i64 (n),.int .i64 (l)] w (Ret (fun v w'=>v= .int .i64 (mkN ms ⟨n,l⟩)∧Ext w w')):=by
 refine calls_run (n:=28) Tryz.func49 rfl rfl rfl ?_;refine jG ?_;refine Run.loop (ι:=Nat) (fun i ρ' w'=>Holds ρ' [(1,.int .i64 (n)),(2,.int .i64 (l)),(9,.slice (am) (ms.length) (cm)),(10,.int .i64 (((ms.length:Nat):Int))),(11,.int .i64 (((i:Nat):Int)))]∧Ext w w'∧(i≤ms.length)∧(NoB (fun m=>decide (m.d.a=⟨n,l⟩)) ms i)) (fun i=>ms.length-i) 0 ?_ ?_
 ·refine⟨⟨rfl,rfl,rfl,rfl,rfl,trivial⟩,(Keeps.refl _ w),?_,?_⟩
  ·omega
  ·exact NoB.zero _ _
 rintro i a6 a7 ⟨a2,K0,hi,hno⟩ ih1;obtain⟨ρ₀,rfl⟩:=a2.ex;clear a2;refine jG ?_;refine jF ?_ ?_
 ·intro hc12
  obtain⟨a8,a9,m,hx,aa,a0⟩:=hs.eo i;have hc_7_lt:=a0.lt;replace a0:=a0.ext K0;refine jG ?_;refine jR<|jA ?_;intro ab ac a1 a3 a4;have ad:=ltLe a0.lt a1;have:=Nat.le_trans K0.size a1;clear a1;refine jR<|jS a3 ?_;intro ae a3 a5;refine jG ?_;refine jV (x_and rfl rfl rfl) ?_;refine jG ?_;replace K0:=(K0.ext a4).n1 a5;refine jF ?_ ?_
  ·intro hc24
   refine jG ?_;refine jJ Tryz.func49 ?_;exact⟨_,rfl,by rw[mkN_at hx (by simp only[MarkC.d,DotC.a,ActorC.mk.injEq];exact hc24) hno],K0⟩
  ·intro hc24
   refine jG ?_;refine jV (litI (c:=((i+1:Nat):Int)) (x_add rfl rfl (by omega) (by omega)) rfl) ?_;refine jG ?_;refine ih1 (i+1) _ _ ?_ (by omega);refine⟨⟨rfl,rfl,rfl,rfl,rfl,trivial⟩,K0,?_,?_⟩
   ·omega
   ·exact hno.step hx (decide_eq_false (by simp only[MarkC.d,DotC.a,ActorC.mk.injEq];omega))
 ·intro hc12
  refine jG ?_;refine jJ Tryz.func49 ?_;exact⟨_,rfl,by rw[mkN_no hno (by omega)],K0⟩
theorem index_c (a:Option Addr)(xs:List DotC)(c:Nat)(x:DotC)(w:World)(hs:SlOf w a xs)(hl:xs.length≤4294967295):
  Calls Tryz.prog 122 #[.slice (a) (xs.length) (c),.agg #[.int .i64 ((x).node),.int .i64 ((x).life),.int .i64 ((x).count)]] w (Ret (fun v w'=>v= .int .i64 (findI (x==·) xs)∧Ext w w')):=by
 refine calls_run (n:=19) Tryz.func122 rfl rfl rfl ?_;refine jG ?_;refine jR<|jB ?_;intro a1 a7 a4 a0 a6;have:w.heap.size≤a1:=a4;clear a4;have K0:=(a6:Ext w _);refine jG ?_;refine Run.loop (ι:=Nat) (fun i ρ' w'=>Holds ρ' [(0,.slice (a) (xs.length) (c)),(3,jp a1),(7,.int .i64 (((xs.length:Nat):Int))),(8,.int .i64 (((i:Nat):Int)))]∧Ext w w'∧(Blk w' a1 [.int .i64 ((x).node),.int .i64 ((x).life),.int .i64 ((x).count)] 87)∧(i≤xs.length)∧(NoB (x==·) xs i)) (fun i=>xs.length-i) 0 ?_ ?_
 ·refine⟨⟨rfl,rfl,rfl,rfl,trivial⟩,K0,a0,?_,?_⟩
  ·omega
  ·exact NoB.zero _ _
 clear a0;clear K0;rintro i a8 a9 ⟨a5,K0,a0,hi,hno⟩ ih1;obtain⟨ρ₀,rfl⟩:=a5.ex;clear a5;refine jG ?_;refine jF ?_ ?_
 ·intro hc9
  refine jG ?_;obtain⟨aa,ab,e,hx,ac,a2⟩:=hs.eo i;have hc_14_lt:=a2.lt;refine Run.drawR ?_;intro ad a3;replace a2:=(a2.ext K0).ext a3;replace a0:=a0.ext a3;refine jG ?_;refine jD (x_eqA (by kernel_rfl) rfl rfl (eq_DotC x e)) ?_;refine jG ?_;replace K0:=K0.ext a3;refine jF ?_ ?_
  ·intro hc16
   refine jG ?_;refine jJ Tryz.func122 ?_;exact⟨_,rfl,by rw[findI_at hx (by simpa using hc16) hno],K0⟩
  ·intro hc16
   refine jG ?_;refine jV (litI (c:=((i+1:Nat):Int)) (x_add rfl rfl (by omega) (by omega)) rfl) ?_;refine jG ?_;refine ih1 (i+1) _ _ ?_ (by omega);refine⟨⟨rfl,rfl,rfl,rfl,trivial⟩,K0,a0,?_,?_⟩
   ·omega
   ·exact hno.step hx (by simpa using hc16)
 ·intro hc9
  refine jG ?_;refine jJ Tryz.func122 ?_;exact⟨_,rfl,by rw[findI_no hno (by omega)],K0⟩
theorem contains_c (a:Option Addr)(xs:List DotC)(c:Nat)(x:DotC)(w:World)(hs:SlOf w a xs)(hl:xs.length≤4294967295):
  Calls Tryz.prog 116 #[.slice (a) (xs.length) (c),.agg #[.int .i64 ((x).node),.int .i64 ((x).life),.int .i64 ((x).count)]] w (Ret (fun v w'=>v= .bool (xs.any (x==·))∧Ext w w')):=by
 refine calls_run (n:=9) Tryz.func116 rfl rfl rfl ?_;refine jG ?_;refine jR<|jB ?_;intro a1 a4 a0 a5 a2;have:w.heap.size≤a1:=a0;clear a0;have K0:=(a2:Ext w _);refine jG ?_;refine jR<|jC (index_c _ _ _ x _ (hs.ext K0) (by omega)) ?_;rintro _ a6 ⟨rfl,a3⟩;refine jG ?_;refine jJ Tryz.func116 ?_;replace K0:=K0.ext a3;exact⟨_,rfl,by rw[findI_ge],K0⟩
theorem equal_c (a:Option Addr)(xs:List DotC)(c:Nat)(d:Option Addr)(ys:List DotC)(e:Nat)(w:World)(hs:SlOf w a xs)(ht:SlOf w d ys)(hl:xs.length≤4294967295):
  Calls Tryz.prog 92 #[.slice (a) (xs.length) (c),.slice (d) (ys.length) (e)] w (Ret (fun v w'=>v= .bool (decide (xs=ys))∧Ext w w')):=by
 refine calls_run (n:=26) Tryz.func92 rfl rfl rfl ?_;refine jG ?_;refine jF ?_ ?_
 ·intro hc10
  refine jG ?_;refine jJ Tryz.func92 ?_;exact⟨_,rfl,by rw[decide_eq_false (fun h=>hc10 (by rw[h]))],(Keeps.refl _ w)⟩
 ·intro hc10
  have hlen:xs.length=ys.length:=by omega
  refine jG ?_;refine Run.loop (ι:=Nat) (fun i ρ' w'=>Holds ρ' [(0,.slice (a) (xs.length) (c)),(1,.slice (d) (ys.length) (e)),(12,.int .i64 (((xs.length:Nat):Int))),(13,.int .i64 (((i:Nat):Int)))]∧Ext w w'∧(i≤xs.length)∧(SameB xs ys i)) (fun i=>xs.length-i) 0 ?_ ?_
  ·refine⟨⟨rfl,rfl,rfl,rfl,trivial⟩,(Keeps.refl _ w),?_,?_⟩
   ·omega
   ·exact SameB.zero _ _
  rintro i a4 a5 ⟨a3,K0,hi,hno⟩ ih1;obtain⟨ρ₀,rfl⟩:=a3.ex;clear a3;refine jG ?_;refine jF ?_ ?_
  ·intro hc14
   refine jG ?_;obtain⟨a6,a7,x,hx,a8,a0⟩:=hs.eo i;have hc_9_lt:=a0.lt;obtain⟨a9,aa,y,hy,ab,a1⟩:=ht.eo i;have hc_15_lt:=a1.lt;refine Run.drawR ?_;intro ac a2;replace a0:=(a0.ext K0).ext a2;replace a1:=(a1.ext K0).ext a2;refine jG ?_;refine jD (x_neA (by kernel_rfl) rfl rfl (eq_DotC x y)) ?_;refine jG ?_;replace K0:=K0.ext a2;refine jF ?_ ?_
   ·intro hc24
    refine jG ?_;refine jJ Tryz.func92 ?_;exact⟨_,rfl,by rw[decide_eq_false (ne_of_at hx hy hc24)],K0⟩
   ·intro hc24
    refine jG ?_;refine jV (litI (c:=((i+1:Nat):Int)) (x_add rfl rfl (by omega) (by omega)) rfl) ?_;refine jG ?_;refine ih1 (i+1) _ _ ?_ (by omega);refine⟨⟨rfl,rfl,rfl,rfl,trivial⟩,K0,?_,?_⟩
    ·omega
    ·exact hno.step hx hy hc24
  ·intro hc14
   refine jG ?_;refine jJ Tryz.func92 ?_;exact⟨_,rfl,by rw[decide_eq_true (hno.all hlen (by omega))],K0⟩
theorem clone_c (a:Option Addr)(xs:List DotC)(c:Nat)(w:World)(hs:SlOf w a xs)(hl:xs.length≤4294967295):
  Calls Tryz.prog 79 #[.slice (a) (xs.length) (c)] w (Ret (fun v w'=>∃a' c',v= .slice a' xs.length c'∧OwnSl w' 87 a' c' xs∧(∀b,own a' b→w.heap.size≤b)∧Ext w w')):=by
 refine calls_run (n:=8) Tryz.func79 rfl rfl rfl ?_;refine jG ?_;refine jV (x_slNil Tryz.underlying25 rfl rfl) ?_;refine jG ?_;refine Run.cond rfl (fun hc4=> ?_) (fun hc4=> ?_)
 ·skip
  refine jG ?_;refine jJ Tryz.func79 ?_;have hx:=hs.nil_of hc4;subst hx;exact⟨_,rfl,none,0,rfl,OwnSl.nil _ _,fun b h=>absurd h (own_none b),(Keeps.refl _ w)⟩
 ·skip
  refine jG ?_;refine jR<|St1.buildSlice ([]:List DotC) Tryz.underlying25 ty87 rfl rfl (by first|decide|(simp[Enc.size])) ?_;intro ab ac a0 a4 a5;have a1:=geTr (Nat.le_refl _) (ge_new a0);clear a0;have K0:=(a5:Ext w _);refine jG ?_;refine jR<|St1.append (xs:=([]:List DotC)) (ys:=xs) Tryz.underlying25 ty87 rfl rfl rfl a4 (hs.ext K0) (by first|omega|(simp only[lr];omega)) (by decide) ?_;intro a2 a6 ad a7 a8 a3 a9;have aa:∀q_,own a2 q_→w.heap.size≤q_:=a3.ge a1 K0.size;clear a3;clear a9;refine jG ?_;refine jJ Tryz.func79 ?_;replace K0:=K0.new a8 a1;exact⟨_,rfl,a2,a6,by rw[List.nil_append],by simpa using a7,aa,K0⟩
theorem covers_ (am:Option Addr)(ms:List MarkC)(cm:Nat)(ac:Option Addr)(cl:List DotC)(cc:Nat)(d:DotC)(w:World)(hs:SlOf w am ms)(ht:SlOf w ac cl)(hl:ms.length≤4294967295)(hl2:cl.length≤4294967295):
  Calls Tryz.prog 103 #[.agg #[.slice (am) (ms.length) (cm),.slice (ac) (cl.length) (cc)],.agg #[.int .i64 ((d).node),.int .i64 ((d).life),.int .i64 ((d).count)]] w (Ret (fun v w'=>v= .bool (decide (Cov ms cl d))∧Ext w w')):=by
 refine calls_run (n:=23) Tryz.func103 rfl rfl rfl ?_;refine jG ?_;refine jR<|jB ?_;intro a9 ab a7 a0 aa;have:w.heap.size≤a9:=a7;clear a7;have K0:=(aa:Ext w _);refine jR<|jB ?_;intro ad ae a2 a1 a8;have af:=ltLe a0.lt a2;have:=Nat.le_trans K0.size a2;clear a2;refine jG ?_;refine Run.drawS [] [0,1001,2,3,4,1005,1006,1007,2008,2009,10,11,12,1013,1014,2015,16,17,18] ?_;intro ag a3;replace a0:=(a0.ext a8).ext a3;replace a1:=a1.ext a3;refine jM (jb a0 (jb a1 Jn)) ?_;refine jG ?_;refine jZ (fun hg=>(actor_ d _)) ?_;intro ah a4;replace a0:=a0.ext a4;replace a1:=a1.ext a4;refine jG ?_;replace K0:=((K0.ext a8).ext a3).ext a4;refine jZ (fun hg=>(mark_ am ms cm ac cl cc (DotC.a d) _ (hs.ext K0) (ht.ext K0) (by omega) (by omega))) ?_;intro ai a5;replace a0:=a0.ext a5;replace a1:=a1.ext a5;refine jG ?_;replace K0:=K0.ext a5;refine jZ (fun hg=>(contains_c _ _ _ d _ (ht.ext K0) (by omega))) ?_;intro aj a6;replace a0:=a0.ext a6;replace a1:=a1.ext a6;refine jG ?_;refine jQ ?_ (hx:=by exact fun _ hg=>(x_orG hg rfl rfl rfl));refine jP ?_ (hx:=by exact fun _=>(x_and rfl rfl rfl));refine jG ?_;refine jJ Tryz.func103 ?_;replace K0:=K0.ext a6;exact⟨_,rfl,by rw[←covers_ite],K0⟩
theorem rcovers_ (am:Option Addr)(ms:List MarkC)(cm:Nat)(ac:Option Addr)(cl:List DotC)(cc:Nat)(d:DotC)(w:World)(hs:SlOf w am ms)(ht:SlOf w ac cl)(hl:ms.length≤4294967295)(hl2:cl.length≤4294967295):
  Calls Tryz.prog 40 #[.agg #[.slice (am) (ms.length) (cm),.slice (ac) (cl.length) (cc)],.agg #[.int .i64 ((d).node),.int .i64 ((d).life),.int .i64 ((d).count)]] w (Ret (fun v w'=>v= .bool (decide (CovR ms cl d))∧Ext w w')):=by
 refine calls_run (n:=33) Tryz.func40 rfl rfl rfl ?_;refine jG ?_;refine jR<|jB ?_;intro a9 ah aa a0 ag;have:w.heap.size≤a9:=aa;clear aa;have K0:=(ag:Ext w _);refine jR<|jB ?_;intro ab ai a4 a1 ad;have aj:=ltLe a0.lt a4;have:=Nat.le_trans K0.size a4;clear a4;refine jG ?_;refine Run.drawS [] [0,1001,2,3,4,1005,6,1007,8,1009,10,1011,2012,13,14] ?_;intro ak a5;replace a0:=(a0.ext ad).ext a5;replace a1:=a1.ext a5;refine jM (jb a0 (jb a1 Jn)) ?_;refine jG ?_;replace K0:=(K0.ext ad).ext a5;refine jZ (fun hg=>(rmark_ _ ms _ ((d).node) ((d).life) _ (hs.ext K0) (by omega))) ?_;intro al a6;replace a0:=a0.ext a6;replace a1:=a1.ext a6;refine jG ?_;refine jP ?_ (hx:=by exact fun _=>(x_and rfl rfl rfl));refine jG ?_;replace K0:=K0.ext a6;refine jF ?_ ?_
 ·intro hc21
  refine jG ?_;refine jJ Tryz.func40 ?_;exact⟨_,rfl,by rw[decide_eq_true (.inl hc21)],K0⟩
 ·intro hc21
  refine jG ?_;refine Run.loop (ι:=Nat) (fun i ρ' w'=>Holds ρ' [(3,jp ab),(23,.slice (ac) (cl.length) (cc)),(24,.int .i64 (((cl.length:Nat):Int))),(25,.int .i64 (((i:Nat):Int)))]∧Ext w w'∧(Blk w' a9 [.slice (am) (ms.length) (cm),.slice (ac) (cl.length) (cc)] 27)∧(Blk w' ab [.int .i64 ((d).node),.int .i64 ((d).life),.int .i64 ((d).count)] 87)∧(i≤cl.length)∧(NoB (fun x=>decide (x=d)) cl i)) (fun i=>cl.length-i) 0 ?_ ?_
  ·refine⟨⟨rfl,rfl,rfl,rfl,trivial⟩,K0,a0,a1,?_,?_⟩
   ·omega
   ·exact NoB.zero _ _
  clear a0 a1;clear K0;rintro i an ao ⟨ae,K0,a0,a1,hi,hno⟩ ih1;obtain⟨ρ₀,rfl⟩:=ae.ex;clear ae;refine jG ?_;refine jF ?_ ?_
  ·intro hc26
   obtain⟨ap,aq,x,hx,ar,a3⟩:=ht.eo i;have hc_22_lt:=a3.lt;replace a3:=a3.ext K0;refine jG ?_;refine jR<|jA ?_;intro au av a2 af a7;have aw:=ltLe a0.lt a2;have ax:=ltLe a1.lt a2;have ay:=ltLe a3.lt a2;have:=Nat.le_trans K0.size a2;clear a2;refine jR<|jS af ?_;intro az af a8;replace a1:=(a1.ext a7).kp a8;refine jG ?_;refine jV (x_eqA (by kernel_rfl) rfl rfl (eq_DotC x d)) ?_;refine jG ?_;replace a0:=(a0.ext a7).kp a8;replace K0:=(K0.ext a7).n1 a8;refine jF ?_ ?_
   ·intro hc31
    refine jG ?_;refine jJ Tryz.func40 ?_;exact⟨_,rfl,by rw[decide_eq_true (.inr (by subst hc31;exact mem_of_at hx))],K0⟩
   ·intro hc31
    refine jG ?_;refine jV (litI (c:=((i+1:Nat):Int)) (x_add rfl rfl (by omega) (by omega)) rfl) ?_;refine jG ?_;refine ih1 (i+1) _ _ ?_ (by omega);refine⟨⟨rfl,rfl,rfl,rfl,trivial⟩,K0,a0,a1,?_,?_⟩
    ·omega
    ·exact hno.step hx (decide_eq_false hc31)
  ·intro hc26
   refine jG ?_;refine jJ Tryz.func40 ?_;exact⟨_,rfl,by rw[decide_eq_false (fun h=>h.elim (fun h=>by have h2:d.count≤mkN ms ⟨d.node,d.life⟩:=h.2;omega) (fun h=>covR_no hno (by omega) h))],K0⟩
end Go.Proofs.YtocgdeefgohdhaaGreat
namespace Go.Proofs.YtocgdeefgohdhaaGreat
attribute [local irreducible] RD RS St1 RL RA RT RT1 Run
theorem sorted_ext {α : Type} {r : α → α → Prop} (irr : ∀ a, ¬ r a a) (tr : ∀ a b c, r a b → r b c → r a c) :
    ∀ {l l' : List α}, l.Pairwise r → l'.Pairwise r → (∀ x, x ∈ l ↔ x ∈ l') → l = l'
  | [], [], _, _, _ => rfl
  | [], b :: l', _, _, h => absurd ((h b).2 (by simp)) (by simp)
  | a :: l, [], _, _, h => absurd ((h a).1 (by simp)) (by simp)
  | a :: l, b :: l', h1, h2, h => by
    rw [List.pairwise_cons] at h1 h2
    have hab : a = b := by
      rcases List.mem_cons.1 ((h a).1 (by simp)) with e | ha
      · exact e
      · rcases List.mem_cons.1 ((h b).2 (by simp)) with e | hb
        · exact e.symm
        · exact absurd (tr _ _ _ (h1.1 b hb) (h2.1 a ha)) (irr a)
    subst hab
    congr 1
    refine sorted_ext irr tr h1.2 h2.2 fun x => ⟨fun hx => ?_, fun hx => ?_⟩
    · rcases List.mem_cons.1 ((h x).1 (List.mem_cons_of_mem _ hx)) with e | h3
      · subst e; exact absurd (h1.1 x hx) (irr x)
      · exact h3
    · rcases List.mem_cons.1 ((h x).2 (List.mem_cons_of_mem _ hx)) with e | h3
      · subst e; exact absurd (h2.1 x hx) (irr x)
      · exact h3
theorem sortM_ext {l l':List MarkC}(h1:l.Pairwise ltM)(h2:l'.Pairwise ltM)(h:∀x,x∈l↔x∈l'):l=l':=
 sorted_ext (fun _=>ltM_irr) (fun _ _ _=>ltM_trans) h1 h2 h
theorem sortD_ext {l l':List DotC}(h1:l.Pairwise ltD)(h2:l'.Pairwise ltD)(h:∀x,x∈l↔x∈l'):l=l':=
 sorted_ext (fun _=>ltD_irr) (fun _ _ _=>ltD_trans) h1 h2 h
theorem ltM_ne {a b:MarkC}(h:ltM a b):a.d.a≠b.d.a:=by
 simp only[MarkC.d,DotC.a,ne_eq,ActorC.mk.injEq];unfold ltM at h;omega
theorem ltM_tri {a b:MarkC}(h:a.d.a≠b.d.a):ltM a b∨ltM b a:=by
 simp only[MarkC.d,DotC.a,ne_eq,ActorC.mk.injEq]at h;unfold ltM;omega
theorem ltM_congr {a b c:MarkC}(h:a.d.a=b.d.a):ltM a c↔ltM b c:=by
 simp only[MarkC.d,DotC.a,ActorC.mk.injEq]at h;unfold ltM;omega
theorem ltM_congr' {a b c:MarkC}(h:a.d.a=b.d.a):ltM c a↔ltM c b:=by
 simp only[MarkC.d,DotC.a,ActorC.mk.injEq]at h;unfold ltM;omega
theorem MarkC.eta {a b:MarkC}(h:a.d.a=b.d.a)(h2:a.count=b.count):a=b:=by
 cases a;cases b;simp only[MarkC.d,DotC.a,ActorC.mk.injEq]at h;simp_all
theorem mkN_cons (m:MarkC)(l:List MarkC)(a:ActorC):mkN (m::l) a=if m.d.a=a then m.count else mkN l a:=by
 unfold mkN
 rw[List.find?_cons]
 by_cases h:m.d.a=a
 ·simp[h]
 ·simp[h]
theorem mkN_of_mem {l : List MarkC} (h : l.Pairwise ltM) {m : MarkC} (hm : m ∈ l) : mkN l m.d.a = m.count := by
  induction l with
  | nil => cases hm
  | cons x l ih =>
    rw [List.pairwise_cons] at h
    rw [mkN_cons]
    rcases List.mem_cons.1 hm with rfl | h2
    · rw [if_pos rfl]
    · rw [if_neg (ltM_ne (h.1 m h2)), ih h.2 h2]
structure Canon (ms:List MarkC)(cl:List DotC):Prop where
 hm:ms.Pairwise ltM
 hp:∀m∈ms,1≤m.count
 hc:cl.Pairwise ltD
 hg:∀d∈cl,mkN ms d.a+1<d.count
theorem Canon.pos {ms:List MarkC}{cl:List DotC}(h:Canon ms cl)(a:ActorC):0≤mkN ms a:=by
 by_cases hz:mkN ms a=0
 ·omega
 ·obtain⟨m,hm,-,e⟩:=mkN_mem hz
  have:=h.hp m hm;omega
theorem Canon.nil :Canon [] []:=⟨List.Pairwise.nil,by simp,List.Pairwise.nil,by simp⟩
theorem canon_mk {ms ms':List MarkC}{cl cl':List DotC}(h:Canon ms cl)(h':Canon ms' cl')(he:∀d,Cov ms cl d→Cov ms' cl' d)(a:ActorC):mkN ms a≤mkN ms' a:=by
 obtain⟨an,al⟩:=a
 refine Decidable.byContradiction fun hlt=> ?_
 have hp':=h'.pos ⟨an,al⟩
 have hq:Cov ms cl ⟨an,al,mkN ms' ⟨an,al⟩+1⟩:= .inl ⟨by show(1:Int)≤mkN ms' ⟨an,al⟩+1;omega,by show mkN ms' ⟨an,al⟩+1≤mkN ms ⟨an,al⟩;omega⟩
 rcases he _ hq with⟨_,h2⟩|⟨_,h2⟩
 ·replace h2:mkN ms' ⟨an,al⟩+1≤mkN ms' ⟨an,al⟩:=h2;omega
 ·have h3:mkN ms' ⟨an,al⟩+1<mkN ms' ⟨an,al⟩+1:=h'.hg _ h2;omega
theorem canon_ext {ms ms':List MarkC}{cl cl':List DotC}(h:Canon ms cl)(h':Canon ms' cl')(he:∀d,Cov ms cl d↔Cov ms' cl' d):ms=ms'∧cl=cl':=by
 have hmk:∀a,mkN ms a=mkN ms' a:=fun a=>Int.le_antisymm (canon_mk h h' (fun d=>(he d).1) a) (canon_mk h' h (fun d=>(he d).2) a)
 have hsub:∀{ms ms':List MarkC},ms.Pairwise ltM→(∀m∈ms,1≤m.count)→ms'.Pairwise ltM→(∀a,mkN ms a=mkN ms' a)→∀m∈ms,m∈ms':=by
  intro ms ms' h1 h2 h3 h4 m hm
  have e:=mkN_of_mem h1 hm
  have p:=h2 m hm
  obtain⟨x,hx,ha,hc⟩:=mkN_mem (ms:=ms') (a:=m.d.a) (by rw[←h4];omega)
  have:x=m:=MarkC.eta ha (by rw[hc,←h4,e])
  exact this▸hx
 have e1:ms=ms':=sortM_ext h.hm h'.hm fun m=>⟨hsub h.hm h.hp h'.hm hmk m,hsub h'.hm h'.hp h.hm (fun a=>(hmk a).symm) m⟩
 refine⟨e1,sortD_ext h.hc h'.hc ?_⟩
 subst e1
 have hs:∀{cl cl':List DotC},Canon ms cl→Canon ms cl'→(∀d,Cov ms cl d→Cov ms cl' d)→∀d∈cl,d∈cl':=by
  intro cl cl' h h' he d hd
  have hg:=h.hg d hd
  have hp:=h.pos d.a
  rcases he d (.inr ⟨by omega,hd⟩)with⟨_,h2⟩|⟨_,h2⟩
  ·omega
  ·exact h2
 exact fun d=>⟨hs h h' (fun d=>(he d).1) d,hs h' h (fun d=>(he d).2) d⟩
theorem Canon.may {ms:List MarkC}{cl:List DotC}(h:Canon ms cl)(hd:∀d,Cov ms cl d→mayD d):(∀m∈ms,mayD m.d)∧∀d∈cl,mayD d:=by
 refine⟨fun m hm=>hd _ (.inl ⟨h.hp m hm,?_⟩),fun d hd'=>hd _ (.inr ⟨?_,hd'⟩)⟩
 ·rw[mkN_of_mem h.hm hm];exact Int.le_refl _
 ·have:=h.hg d hd';have:=h.pos d.a;omega
def Raw (M:List MarkC)(D:List DotC)(d:DotC):Prop:=1≤d.count∧((∃m∈M,m.d.a=d.a∧d.count≤m.count)∨d∈D)
theorem Canon.raw {ms:List MarkC}{cl:List DotC}(h:Canon ms cl)(d:DotC):Cov ms cl d↔Raw ms cl d:=by
 constructor
 ·rintro(⟨h1,h2⟩|⟨h1,h2⟩)
  ·obtain⟨m,hm,ha,hc⟩:=mkN_mem (ms:=ms) (a:=d.a) (by omega)
   exact⟨h1,.inl ⟨m,hm,ha,by omega⟩⟩
  ·exact⟨h1,.inr h2⟩
 ·rintro⟨h1,⟨m,hm,ha,hc⟩|h2⟩
  ·refine .inl ⟨h1,?_⟩
   rw[←ha,mkN_of_mem h.hm hm];exact hc
  ·exact .inr ⟨h1,h2⟩
theorem Canon.of_raw {ms M:List MarkC}{cl D:List DotC}(h:Canon ms cl)(hr:∀d,Raw ms cl d↔Raw M D d):∀d,Cov ms cl d↔Raw M D d:=fun d=>(h.raw d).trans (hr d)
def leD (a b:DotC):Bool:= !decide (ltD b a)
def sortD (l:List DotC):List DotC:=l.mergeSort leD
theorem leD_trans (a b c:DotC)(h1:leD a b=true)(h2:leD b c=true):leD a c=true:=by
 simp only[leD,Bool.not_eq_true',decide_eq_false_iff_not]at*;unfold ltD at*;omega
theorem leD_total (a b:DotC):(leD a b||leD b a)=true:=by
 simp only[leD,Bool.or_eq_true,Bool.not_eq_true',decide_eq_false_iff_not];unfold ltD;omega
theorem sortD_mem {l:List DotC}{d:DotC}:d∈sortD l↔d∈l:=List.mem_mergeSort
theorem sortD_le (l:List DotC):(sortD l).Pairwise (fun a b=>¬ltD b a):=by
 have:=List.pairwise_mergeSort (le:=leD) leD_trans leD_total l
 exact this.imp fun h=>by simpa[leD]using h
def mergeM (acc:List MarkC)(d:DotC):List MarkC:=
 match acc.getLast? with
 |some m=>if m.d.a=d.a then acc.dropLast++[⟨m.node,m.life,d.count⟩]else acc++[d.m]
 |none=>[d.m]
def marksOf (l:List DotC):List MarkC:=l.foldl mergeM []
theorem mergeM_snoc (acc:List MarkC)(m:MarkC)(d:DotC):mergeM (acc++[m]) d=if m.d.a=d.a then acc++[⟨m.node,m.life,d.count⟩]else acc++[m]++[d.m]:=by
 unfold mergeM;rw[List.getLast?_append];simp
theorem mergeM_nil (d:DotC):mergeM [] d=[d.m]:=rfl
structure Merged (acc:List MarkC)(l:List DotC):Prop where
 hm:acc.Pairwise ltM
 hp:∀m∈acc,1≤m.count
 hl:∀m,acc.getLast? =some m→l.getLast? =some m.d
 he:acc=[]↔l=[]
 hr:∀d:DotC,1≤d.count→((∃m∈acc,m.d.a=d.a∧d.count≤m.count)↔∃x∈l,x.a=d.a∧d.count≤x.count)
theorem Merged.step {acc:List MarkC}{l:List DotC}{d:DotC}(h:Merged acc l)(hd:1≤d.count)(hle:∀x∈l,¬ltD d x):Merged (mergeM acc d) (l++[d]):=by
 rcases List.eq_nil_or_concat acc with rfl|⟨ls,m,rfl⟩
 ·have:=h.he.1 rfl;subst this
  rw[mergeM_nil]
  refine⟨by simp,by simpa using hd,by simp,by simp,fun e he=> ?_⟩
  simp
 ·rw[List.concat_eq_append]at h⊢
  have hlast:=h.hl m (by simp)
  have hml:m.d∈l:=List.mem_of_getLast? hlast
  have hmd:=hle _ hml
  have hm:=h.hm
  rw[List.pairwise_append]at hm
  have hp:=h.hp
  rw[mergeM_snoc]
  by_cases ha:m.d.a=d.a
  ·rw[if_pos ha]
   have hc:m.count≤d.count:=by
    simp only[MarkC.d,DotC.a,ActorC.mk.injEq]at ha;simp only[MarkC.d,ltD]at hmd;omega
   refine⟨List.pairwise_append.2 ⟨hm.1,by simp,fun x hx y hy=> ?_⟩,fun x hx=> ?_,fun x hx=> ?_,by simp,fun e he=> ?_⟩
   ·simp only[List.mem_singleton]at hy;subst hy
    exact(ltM_congr' (a:=m) rfl).1 (hm.2.2 x hx m (by simp))
   ·rcases List.mem_append.1 hx with h2|h2
    ·exact hp x (by simp[h2])
    ·simp only[List.mem_singleton]at h2;subst h2;exact hd
   ·simp only[List.getLast?_append,List.getLast?_singleton,Option.some_or,Option.some.injEq]at hx⊢
    subst hx
    simp only[MarkC.d,DotC.a,ActorC.mk.injEq]at ha⊢
    exact DotC.eta ha.1.symm ha.2.symm rfl
   ·have h0:=h.hr e he
    constructor
    ·rintro⟨x,hx,h1,h2⟩
     rcases List.mem_append.1 hx with h3|h3
     ·obtain⟨y,hy,h4⟩:=h0.1 ⟨x,by simp[h3],h1,h2⟩
      exact⟨y,by simp[hy],h4⟩
     ·simp only[List.mem_singleton]at h3;subst h3
      exact⟨d,by simp,ha▸h1,h2⟩
    ·rintro⟨x,hx,h1,h2⟩
     rcases List.mem_append.1 hx with h3|h3
     ·obtain⟨y,hy,h4,h5⟩:=h0.2 ⟨x,h3,h1,h2⟩
      rcases List.mem_append.1 hy with h6|h6
      ·exact⟨y,by simp[h6],h4,h5⟩
      ·simp only[List.mem_singleton]at h6;subst h6
       exact⟨_,List.mem_append_right _ (List.mem_singleton.2 rfl),h4,Int.le_trans h5 hc⟩
     ·simp only[List.mem_singleton]at h3;subst h3
      exact⟨_,List.mem_append_right _ (List.mem_singleton.2 rfl),ha.trans h1,h2⟩
  ·rw[if_neg ha]
   have hlt:ltM m d.m:=by
    simp only[MarkC.d,DotC.a,ActorC.mk.injEq]at ha;simp only[MarkC.d,ltD]at hmd;simp only[ltM];omega
   refine⟨List.pairwise_append.2 ⟨h.hm,by simp,fun x hx y hy=> ?_⟩,fun x hx=> ?_,fun x hx=> ?_,by simp,fun e he=> ?_⟩
   ·simp only[List.mem_singleton]at hy;subst hy
    rcases List.mem_append.1 hx with h2|h2
    ·exact ltM_trans (hm.2.2 x h2 m (by simp)) hlt
    ·simp only[List.mem_singleton]at h2;subst h2;exact hlt
   ·rcases List.mem_append.1 hx with h2|h2
    ·exact hp x h2
    ·simp only[List.mem_singleton]at h2;subst h2;exact hd
   ·simp only[List.getLast?_append,List.getLast?_singleton,Option.some_or,Option.some.injEq]at hx⊢
    subst hx;rfl
   ·have h0:=h.hr e he
    constructor
    ·rintro⟨x,hx,h1,h2⟩
     rcases List.mem_append.1 hx with h3|h3
     ·obtain⟨y,hy,h4⟩:=h0.1 ⟨x,h3,h1,h2⟩
      exact⟨y,by simp[hy],h4⟩
     ·simp only[List.mem_singleton]at h3;subst h3
      exact⟨d,by simp,h1,h2⟩
    ·rintro⟨x,hx,h1,h2⟩
     rcases List.mem_append.1 hx with h3|h3
     ·obtain⟨y,hy,h4⟩:=h0.2 ⟨x,h3,h1,h2⟩
      exact⟨y,List.mem_append_left _ hy,h4⟩
     ·simp only[List.mem_singleton]at h3;subst h3
      exact⟨x.m,List.mem_append_right _ (by simp),h1,h2⟩
theorem Merged.all {l : List DotC} (hp : ∀ d ∈ l, 1 ≤ d.count) (hs : l.Pairwise (fun a b => ¬ ltD b a)) : Merged (marksOf l) l := by
  have key : ∀ (r l : List DotC) (acc : List MarkC), Merged acc l → (∀ d ∈ r, 1 ≤ d.count) → (l ++ r).Pairwise (fun a b => ¬ ltD b a) → Merged (r.foldl mergeM acc) (l ++ r) := by
    intro r
    induction r with
    | nil => intro l acc h _ _; simpa using h
    | cons d r ih =>
      intro l acc h h1 h2
      have := ih (l ++ [d]) (mergeM acc d) (h.step (h1 d (by simp)) fun x hx => (List.pairwise_append.1 h2).2.2 x hx d (by simp)) (fun x hx => h1 x (by simp [hx])) (by simpa using h2)
      simpa using this
  have h := key l [] [] ⟨List.Pairwise.nil, by simp, by simp, by simp, by simp⟩ hp (by simpa using hs)
  rw [List.nil_append] at h
  exact h
def setM :List MarkC→DotC→List MarkC
 |[],d=>[d.m]
 |m::l,d=>if m.d.a=d.a then⟨m.node,m.life,d.count⟩::l else if ltM d.m m then d.m::m::l else m::setM l d
theorem setM_mem {l : List MarkC} {d : DotC} {x : MarkC} (h : x ∈ setM l d) : x = d.m ∨ x ∈ l := by
  induction l with
  | nil => simp [setM] at h; exact .inl h
  | cons m l ih =>
    rw [setM] at h
    split at h
    · rename_i ha
      rcases List.mem_cons.1 h with rfl | h
      · exact .inl (MarkC.eta ha rfl)
      · exact .inr (by simp [h])
    · split at h
      · rcases List.mem_cons.1 h with rfl | h
        · exact .inl rfl
        · exact .inr h
      · rcases List.mem_cons.1 h with rfl | h
        · exact .inr (by simp)
        · rcases ih h with h | h
          · exact .inl h
          · exact .inr (by simp [h])
theorem setM_sorted {l : List MarkC} {d : DotC} (h : l.Pairwise ltM) : (setM l d).Pairwise ltM := by
  induction l with
  | nil => simp [setM]
  | cons m l ih =>
    rw [List.pairwise_cons] at h
    rw [setM]
    split
    · exact List.pairwise_cons.2 ⟨fun x hx => (ltM_congr (a := m) rfl).1 (h.1 x hx), h.2⟩
    · rename_i ha
      split
      · rename_i hlt
        refine List.pairwise_cons.2 ⟨fun x hx => ?_, List.pairwise_cons.2 h⟩
        rcases List.mem_cons.1 hx with rfl | hx
        · exact hlt
        · exact ltM_trans hlt (h.1 x hx)
      · rename_i hlt
        refine List.pairwise_cons.2 ⟨fun x hx => ?_, ih h.2⟩
        rcases setM_mem hx with rfl | hx
        · exact (ltM_tri (a := m) (b := d.m) ha).elim id fun h2 => absurd h2 hlt
        · exact h.1 x hx
theorem mkN_set {l : List MarkC} {d : DotC} (a : ActorC) : mkN (setM l d) a = if d.a = a then d.count else mkN l a := by
  induction l with
  | nil => rw [setM, mkN_cons]
  | cons m l ih =>
    rw [setM]
    split
    · rename_i ha
      rw [mkN_cons, mkN_cons]
      by_cases h : d.a = a
      · rw [if_pos (show (⟨m.node, m.life, d.count⟩ : MarkC).d.a = a from ha.trans h), if_pos h]
      · rw [if_neg (show ¬ (⟨m.node, m.life, d.count⟩ : MarkC).d.a = a from fun e => h (ha.symm.trans e)), if_neg h, if_neg (fun e => h (ha.symm.trans e))]
    · rename_i ha
      split
      · rw [mkN_cons]
      · rw [mkN_cons, ih, mkN_cons]
        by_cases h : d.a = a
        · rw [if_pos h, if_neg (fun e => ha (e.trans h.symm)), if_pos h]
        · rw [if_neg h, if_neg h]
def growX (c:List MarkC×List DotC)(d:DotC):List MarkC×List DotC:=
 if d.count≤mkN c.1 d.a then c else if mkN c.1 d.a+1<d.count then(c.1,c.2++[d])else(setM c.1 d,c.2)
theorem growX_canon {ms:List MarkC}{cl:List DotC}{d:DotC}(h:Canon ms cl)(hd:1≤d.count)(hlt:∀x∈cl,ltD x d):
  Canon (growX (ms,cl) d).1 (growX (ms,cl) d).2∧(∀x,Cov (growX (ms,cl) d).1 (growX (ms,cl) d).2 x↔Cov ms cl x∨x=d)∧(∀x∈(growX (ms,cl) d).2,x∈cl∨x=d):=by
 unfold growX
 simp only
 have hpos:=h.pos d.a
 split
 ·rename_i h1
  refine⟨h,fun x=>⟨.inl,?_⟩,fun x hx=> .inl hx⟩
  rintro(h2|rfl)
  ·exact h2
  ·exact .inl ⟨hd,h1⟩
 ·split
  ·rename_i h1 h2
   refine⟨⟨h.hm,h.hp,List.pairwise_append.2 ⟨h.hc,by simp,fun x hx y hy=> ?_⟩,fun x hx=> ?_⟩,fun x=> ?_,fun x hx=>by simpa using hx⟩
   ·simp only[List.mem_singleton]at hy;subst hy;exact hlt x hx
   ·rcases List.mem_append.1 hx with hx|hx
    ·exact h.hg x hx
    ·simp only[List.mem_singleton]at hx;subst hx;exact h2
   ·simp only[Cov,List.mem_append,List.mem_singleton]
    constructor
    ·rintro(h3|⟨h3,h4|h4⟩)
     ·exact .inl (.inl h3)
     ·exact .inl (.inr ⟨h3,h4⟩)
     ·exact .inr h4
    ·rintro((h3|⟨h3,h4⟩)|rfl)
     ·exact .inl h3
     ·exact .inr ⟨h3,.inl h4⟩
     ·exact .inr ⟨hd,.inr rfl⟩
  ·rename_i h1 h2
   have hc:d.count=mkN ms d.a+1:=by omega
   have hno:∀x∈cl,x.a≠d.a:=fun x hx e=>by
    have h3:=h.hg x hx
    have h4:=hlt x hx
    rw[e]at h3
    simp only[DotC.a,ActorC.mk.injEq]at e;unfold ltD at h4;omega
   refine⟨⟨setM_sorted h.hm,fun m hm=> ?_,h.hc,fun x hx=> ?_⟩,fun x=> ?_,fun x hx=> .inl hx⟩
   ·rcases setM_mem hm with rfl|h3
    ·exact hd
    ·exact h.hp m h3
   ·rw[mkN_set,if_neg (fun e=>hno x hx e.symm)];exact h.hg x hx
   ·simp only[Cov,mkN_set]
    by_cases ha:d.a=x.a
    ·rw[if_pos ha]
     rw[←ha]
     constructor
     ·rintro(⟨h3,h4⟩|h3)
      ·by_cases h5:x.count=d.count
       ·right
        simp only[DotC.a,ActorC.mk.injEq]at ha
        exact DotC.eta ha.1.symm ha.2.symm h5
       ·exact .inl (.inl ⟨h3,by omega⟩)
      ·exact .inl (.inr h3)
     ·rintro((⟨h3,h4⟩|h3)|rfl)
      ·exact .inl ⟨h3,by omega⟩
      ·exact .inr h3
      ·exact .inl ⟨hd,Int.le_refl _⟩
    ·rw[if_neg ha]
     constructor
     ·exact .inl
     ·rintro(h3|rfl)
      ·exact h3
      ·exact absurd rfl ha
theorem growX_all {l : List DotC} {c : List MarkC × List DotC} (h : Canon c.1 c.2) (hp : ∀ d ∈ l, 1 ≤ d.count) (hs : (c.2 ++ l).Pairwise ltD) :
    Canon (l.foldl growX c).1 (l.foldl growX c).2 ∧ (∀ x, Cov (l.foldl growX c).1 (l.foldl growX c).2 x ↔ Cov c.1 c.2 x ∨ x ∈ l) := by
  induction l generalizing c with
  | nil => exact ⟨h, fun x => by simp⟩
  | cons d l ih =>
    have hs' := List.pairwise_append.1 hs
    obtain ⟨h1, h2, h3⟩ := growX_canon (d := d) h (hp d (by simp)) fun x hx => hs'.2.2 x hx d (by simp)
    have hd := List.pairwise_cons.1 hs'.2.1
    obtain ⟨h4, h5⟩ := ih (c := growX c d) h1 (fun x hx => hp x (by simp [hx])) (List.pairwise_append.2 ⟨h1.hc, hd.2, fun x hx y hy => by
      rcases h3 x hx with h6 | rfl
      · exact hs'.2.2 x h6 y (by simp [hy])
      · exact hd.1 y hy⟩)
    refine ⟨h4, fun x => ?_⟩
    rw [List.foldl_cons, h5, h2, List.mem_cons, or_assoc]
def compD :List DotC→List DotC
 |[]=>[]
 |[a]=>[a]
 |a::b::l=>if a=b then compD (b::l)else a::compD (b::l)
theorem compD_mem {l : List DotC} {d : DotC} : d ∈ compD l ↔ d ∈ l := by
  induction l with
  | nil => simp [compD]
  | cons a l ih =>
    cases l with
    | nil => simp [compD]
    | cons b l =>
      rw [compD]
      split
      · rename_i h; subst h; rw [ih]; simp
      · rw [List.mem_cons, ih]; simp
theorem compD_sorted {l : List DotC} (h : l.Pairwise (fun a b => ¬ ltD b a)) : (compD l).Pairwise ltD := by
  induction l with
  | nil => simp [compD]
  | cons a l ih =>
    cases l with
    | nil => simp [compD]
    | cons b l =>
      rw [List.pairwise_cons] at h
      rw [compD]
      split
      · exact ih h.2
      · rename_i hab
        refine List.pairwise_cons.2 ⟨fun x hx => ?_, ih h.2⟩
        have hx' := compD_mem.1 hx
        have h1 := h.1 b (by simp)
        have hlt : ltD a b := Decidable.byContradiction fun h2 => hab (ltD_tri h2 h1)
        rcases List.mem_cons.1 hx' with rfl | h3
        · exact hlt
        · have h4 := (List.pairwise_cons.1 h.2).1 x h3
          unfold ltD at *; omega
def normX (M:List MarkC)(D:List DotC):List MarkC×List DotC:=(compD (sortD D)).foldl growX (marksOf (sortD (M.map MarkC.d)),[])
theorem normX_spec {M:List MarkC}{D:List DotC}(hM:∀m∈M,1≤m.count)(hD:∀d∈D,1≤d.count):
  Canon (normX M D).1 (normX M D).2∧∀d,Cov (normX M D).1 (normX M D).2 d↔Raw M D d:=by
 have hm:=Merged.all (l:=sortD (M.map MarkC.d)) (fun d hd=>by
  obtain⟨m,hm,rfl⟩:=List.mem_map.1 (sortD_mem.1 hd);exact hM m hm) (sortD_le _)
 have hc:Canon (marksOf (sortD (M.map MarkC.d))) []:=⟨hm.hm,hm.hp,List.Pairwise.nil,by simp⟩
 obtain⟨h1,h2⟩:=growX_all (l:=compD (sortD D)) (c:=(marksOf (sortD (M.map MarkC.d)),[])) hc (fun d hd=>hD d (sortD_mem.1 (compD_mem.1 hd))) (by simpa using compD_sorted (sortD_le D))
 refine⟨h1,fun d=>(h2 d).trans ?_⟩
 rw[hc.raw,compD_mem,sortD_mem]
 constructor
 ·rintro(⟨h3,h4|h4⟩|h3)
  ·obtain⟨x,hx,h5,h6⟩:=(hm.hr d h3).1 h4
   obtain⟨m,hm',rfl⟩:=List.mem_map.1 (sortD_mem.1 hx)
   exact⟨h3,.inl ⟨m,hm',h5,h6⟩⟩
  ·cases h4
  ·exact⟨hD d h3,.inr h3⟩
 ·rintro⟨h3,⟨m,hm',h5,h6⟩|h4⟩
  ·exact .inl ⟨h3,.inl ((hm.hr d h3).2 ⟨m.d,sortD_mem.2 (List.mem_map.2 ⟨m,hm',rfl⟩),h5,h6⟩)⟩
  ·exact .inr h4
theorem normX_eq {M:List MarkC}{D:List DotC}{ms:List MarkC}{cl:List DotC}(hM:∀m∈M,1≤m.count)(hD:∀d∈D,1≤d.count)
  (h:Canon ms cl) (hr:∀d,Cov ms cl d↔Raw M D d):normX M D=(ms,cl):=by
 obtain⟨h1,h2⟩:=normX_spec hM hD
 obtain⟨e1,e2⟩:=canon_ext h1 h fun d=>(h2 d).trans (hr d).symm
 exact Prod.ext e1 e2
def setS (m:MarkC)(s:List MarkC×Bool)(x:MarkC):List MarkC×Bool:=
 if x.d.a=m.d.a then(s.1++[⟨x.node,x.life,max x.count m.count⟩],true)else if s.2=false∧ltM m x then(s.1++[m]++[x],true)else(s.1++[x],s.2)
def setR (l:List MarkC)(m:MarkC):List MarkC:=if (l.foldl (setS m) ([],false)).2 then(l.foldl (setS m) ([],false)).1 else(l.foldl (setS m) ([],false)).1++[m]
def maxM :List MarkC→MarkC→List MarkC
 |[],m=>[m]
 |x::t,m=>if x.d.a=m.d.a then⟨x.node,x.life,max x.count m.count⟩::t else if ltM m x then m::x::t else x::maxM t m
theorem setS_on {l : List MarkC} {m : MarkC} (h : ∀ x ∈ l, x.d.a ≠ m.d.a) (out : List MarkC) : l.foldl (setS m) (out, true) = (out ++ l, true) := by
  induction l generalizing out with
  | nil => simp
  | cons x l ih =>
    rw [List.foldl_cons, setS, if_neg (h x (by simp)), if_neg (by simp), ih fun y hy => h y (by simp [hy])]
    simp
theorem setS_run {l : List MarkC} {m : MarkC} (h : l.Pairwise ltM) (out : List MarkC) :
    (if (l.foldl (setS m) (out, false)).2 then (l.foldl (setS m) (out, false)).1 else (l.foldl (setS m) (out, false)).1 ++ [m]) = out ++ maxM l m := by
  induction l generalizing out with
  | nil => simp [maxM]
  | cons x l ih =>
    rw [List.pairwise_cons] at h
    rw [List.foldl_cons, maxM]
    by_cases ha : x.d.a = m.d.a
    · have e : setS m (out, false) x = (out ++ [⟨x.node, x.life, max x.count m.count⟩], true) := by rw [setS, if_pos ha]
      rw [e, if_pos ha, setS_on fun y hy e => ltM_ne (h.1 y hy) (ha.trans e.symm)]
      simp
    · rw [if_neg ha]
      by_cases hl : ltM m x
      · have e : setS m (out, false) x = (out ++ [m] ++ [x], true) := by rw [setS, if_neg ha, if_pos ⟨rfl, hl⟩]
        rw [e, if_pos hl, setS_on fun y hy e => ltM_ne (ltM_trans hl (h.1 y hy)) e.symm]
        simp
      · have e : setS m (out, false) x = (out ++ [x], false) := by rw [setS, if_neg ha, if_neg (by simp [hl])]
        rw [e, if_neg hl, ih h.2]
        simp
theorem setR_eq {l:List MarkC}(h:l.Pairwise ltM)(m:MarkC):setR l m=maxM l m:=by
 have:=setS_run (m:=m) h []
 simpa[setR]using this
theorem maxM_mem {l : List MarkC} {m x : MarkC} (h : x ∈ maxM l m) : x = m ∨ x ∈ l ∨ (x.d.a = m.d.a ∧ ∃ y ∈ l, y.d.a = m.d.a ∧ x.count = max y.count m.count) := by
  induction l with
  | nil => simp [maxM] at h; exact .inl h
  | cons y l ih =>
    rw [maxM] at h
    split at h
    · rename_i ha
      rcases List.mem_cons.1 h with rfl | h
      · exact .inr (.inr ⟨ha, y, by simp, ha, rfl⟩)
      · exact .inr (.inl (by simp [h]))
    · split at h
      · rcases List.mem_cons.1 h with rfl | h
        · exact .inl rfl
        · exact .inr (.inl h)
      · rcases List.mem_cons.1 h with rfl | h
        · exact .inr (.inl (by simp))
        · rcases ih h with h | h | ⟨h, z, hz, h2⟩
          · exact .inl h
          · exact .inr (.inl (by simp [h]))
          · exact .inr (.inr ⟨h, z, by simp [hz], h2⟩)
theorem maxM_sorted {l : List MarkC} {m : MarkC} (h : l.Pairwise ltM) : (maxM l m).Pairwise ltM := by
  induction l with
  | nil => simp [maxM]
  | cons x l ih =>
    rw [List.pairwise_cons] at h
    rw [maxM]
    split
    · exact List.pairwise_cons.2 ⟨fun y hy => (ltM_congr (a := x) rfl).1 (h.1 y hy), h.2⟩
    · rename_i ha
      split
      · rename_i hlt
        refine List.pairwise_cons.2 ⟨fun y hy => ?_, List.pairwise_cons.2 h⟩
        rcases List.mem_cons.1 hy with rfl | hy
        · exact hlt
        · exact ltM_trans hlt (h.1 y hy)
      · rename_i hlt
        have hxm : ltM x m := (ltM_tri ha).elim id fun h2 => absurd h2 hlt
        refine List.pairwise_cons.2 ⟨fun y hy => ?_, ih h.2⟩
        rcases maxM_mem hy with rfl | hy | ⟨hy, -⟩
        · exact hxm
        · exact h.1 y hy
        · exact (ltM_congr' (c := x) hy).2 hxm
theorem maxM_pos {l:List MarkC}{m:MarkC}(h:∀x∈l,1≤x.count)(hm:1≤m.count):∀x∈maxM l m,1≤x.count:=by
 intro x hx
 rcases maxM_mem hx with rfl|hx|⟨-,y,hy,-,e⟩
 ·exact hm
 ·exact h x hx
 ·have:=h y hy;omega
theorem maxM_len (l : List MarkC) (m : MarkC) : (maxM l m).length ≤ l.length + 1 := by
  induction l with
  | nil => simp [maxM]
  | cons x l ih =>
    rw [maxM]
    split
    · simp
    · split <;> simp <;> omega
theorem maxM_raw {l : List MarkC} {m : MarkC} (a : ActorC) (c : Int) : (∃ x ∈ maxM l m, x.d.a = a ∧ c ≤ x.count) ↔ (∃ x ∈ l, x.d.a = a ∧ c ≤ x.count) ∨ (m.d.a = a ∧ c ≤ m.count) := by
  induction l with
  | nil => simp [maxM]
  | cons x l ih =>
    rw [maxM]
    split
    · rename_i ha
      constructor
      · rintro ⟨y, hy, h1, h2⟩
        rcases List.mem_cons.1 hy with rfl | hy
        · simp only at h2
          by_cases h3 : c ≤ x.count
          · exact .inl ⟨x, by simp, h1, h3⟩
          · exact .inr ⟨ha ▸ h1, by omega⟩
        · exact .inl ⟨y, by simp [hy], h1, h2⟩
      · rintro (⟨y, hy, h1, h2⟩ | ⟨h1, h2⟩)
        · rcases List.mem_cons.1 hy with rfl | hy
          · exact ⟨_, List.mem_cons_self .., h1, by simp only; omega⟩
          · exact ⟨y, by simp [hy], h1, h2⟩
        · exact ⟨_, List.mem_cons_self .., ha.trans h1, by simp only; omega⟩
    · split
      · constructor
        · rintro ⟨y, hy, h1, h2⟩
          rcases List.mem_cons.1 hy with rfl | hy
          · exact .inr ⟨h1, h2⟩
          · exact .inl ⟨y, hy, h1, h2⟩
        · rintro (⟨y, hy, h1⟩ | h1)
          · exact ⟨y, List.mem_cons_of_mem _ hy, h1⟩
          · exact ⟨m, by simp, h1⟩
      · constructor
        · rintro ⟨y, hy, h1, h2⟩
          rcases List.mem_cons.1 hy with rfl | hy
          · exact .inl ⟨_, by simp, h1, h2⟩
          · rcases ih.1 ⟨y, hy, h1, h2⟩ with ⟨z, hz, h3⟩ | h3
            · exact .inl ⟨z, by simp [hz], h3⟩
            · exact .inr h3
        · rintro (⟨y, hy, h1⟩ | h1)
          · rcases List.mem_cons.1 hy with rfl | hy
            · exact ⟨_, by simp, h1⟩
            · obtain ⟨z, hz, h3⟩ := ih.2 (.inl ⟨y, hy, h1⟩)
              exact ⟨z, by simp [hz], h3⟩
          · obtain ⟨z, hz, h3⟩ := ih.2 (.inr h1)
            exact ⟨z, by simp [hz], h3⟩
structure SetAll (l M:List MarkC):Prop where
 hm:l.Pairwise ltM
 hp:∀m∈l,1≤m.count
 hl:l.length≤M.length
 hr:∀a c,(∃x∈l,x.d.a=a∧c≤x.count)↔∃x∈M,x.d.a=a∧c≤x.count
theorem SetAll.nil :SetAll [] []:=⟨List.Pairwise.nil,by simp,by simp,by simp⟩
theorem SetAll.step {l M:List MarkC}{m:MarkC}(h:SetAll l M)(hm:1≤m.count):SetAll (setR l m) (M++[m]):=by
 rw[setR_eq h.hm]
 refine⟨maxM_sorted h.hm,maxM_pos h.hp hm,by have:=maxM_len l m;have:=h.hl;simp;omega,fun a c=> ?_⟩
 rw[maxM_raw,h.hr]
 simp only[List.mem_append,List.mem_singleton,or_and_right,exists_or,exists_eq_left]
def insS (d:DotC)(s:List DotC×Bool)(x:DotC):List DotC×Bool:=
 if (s.2=false∧x≠d)∧ltD d x then(s.1++[d]++[x],true)else(s.1++[x],s.2||decide (x=d))
def insR (l:List DotC)(d:DotC):List DotC:=if (l.foldl (insS d) ([],false)).2 then(l.foldl (insS d) ([],false)).1 else(l.foldl (insS d) ([],false)).1++[d]
def insD :List DotC→DotC→List DotC
 |[],d=>[d]
 |x::t,d=>if x=d then x::t else if ltD d x then d::x::t else x::insD t d
theorem insS_on (l:List DotC)(d:DotC)(out:List DotC):l.foldl (insS d) (out,true)=(out++l,true):=by
 induction l generalizing out with
 |nil=>simp
 |cons x l ih=>rw[List.foldl_cons,insS,if_neg (by simp),Bool.true_or,ih];simp
theorem insS_run (l : List DotC) (d : DotC) (out : List DotC) :
    (if (l.foldl (insS d) (out, false)).2 then (l.foldl (insS d) (out, false)).1 else (l.foldl (insS d) (out, false)).1 ++ [d]) = out ++ insD l d := by
  induction l generalizing out with
  | nil => simp [insD]
  | cons x l ih =>
    rw [List.foldl_cons, insD]
    by_cases he : x = d
    · have e : insS d (out, false) x = (out ++ [x], true) := by rw [insS, if_neg (by simp [he]), decide_eq_true he, Bool.or_true]
      rw [e, if_pos he, insS_on]; simp
    · rw [if_neg he]
      by_cases hl : ltD d x
      · have e : insS d (out, false) x = (out ++ [d] ++ [x], true) := by rw [insS, if_pos ⟨⟨rfl, he⟩, hl⟩]
        rw [e, if_pos hl, insS_on]; simp
      · have e : insS d (out, false) x = (out ++ [x], false) := by rw [insS, if_neg (by simp [hl]), decide_eq_false he, Bool.or_false]
        rw [e, if_neg hl, ih]; simp
theorem insR_eq (l:List DotC)(d:DotC):insR l d=insD l d:=by
 have:=insS_run l d []
 simpa[insR]using this
theorem insD_mem {l : List DotC} {d x : DotC} : x ∈ insD l d ↔ x ∈ l ∨ x = d := by
  induction l with
  | nil => simp [insD]
  | cons y l ih =>
    rw [insD]
    split
    · rename_i h; subst h; simp only [List.mem_cons]; constructor
      · exact .inl
      · rintro (h | rfl)
        · exact h
        · exact .inl rfl
    · split
      · simp only [List.mem_cons]; constructor
        · rintro (h | h)
          · exact .inr h
          · exact .inl h
        · rintro (h | h)
          · exact .inr h
          · exact .inl h
      · simp only [List.mem_cons, ih, or_assoc]
theorem insD_sorted {l : List DotC} {d : DotC} (h : l.Pairwise ltD) : (insD l d).Pairwise ltD := by
  induction l with
  | nil => simp [insD]
  | cons x l ih =>
    have h0 := h
    rw [List.pairwise_cons] at h
    rw [insD]
    split
    · exact h0
    · rename_i he
      split
      · rename_i hlt
        refine List.pairwise_cons.2 ⟨fun y hy => ?_, h0⟩
        rcases List.mem_cons.1 hy with rfl | hy
        · exact hlt
        · exact ltD_trans hlt (h.1 y hy)
      · rename_i hlt
        refine List.pairwise_cons.2 ⟨fun y hy => ?_, ih h.2⟩
        rcases insD_mem.1 hy with hy | rfl
        · exact h.1 y hy
        · exact Decidable.byContradiction fun h2 => he (ltD_tri h2 hlt)
theorem insD_len (l : List DotC) (d : DotC) : (insD l d).length ≤ l.length + 1 := by
  induction l with
  | nil => simp [insD]
  | cons x l ih =>
    rw [insD]
    split
    · simp
    · split <;> simp <;> omega
structure InsAll (l D:List DotC):Prop where
 hs:l.Pairwise ltD
 hl:l.length≤D.length
 hr:∀x,x∈l↔x∈D
theorem InsAll.nil :InsAll [] []:=⟨List.Pairwise.nil,by simp,by simp⟩
theorem InsAll.step {l D:List DotC}(h:InsAll l D)(d:DotC):InsAll (insR l d) (D++[d]):=by
 rw[insR_eq]
 exact⟨insD_sorted h.hs,by have:=insD_len l d;have:=h.hl;simp;omega,fun x=>by rw[insD_mem,h.hr];simp⟩
structure SS where
 ms:List MarkC
 left:List DotC
 again:Bool
def setlS (s:SS)(d:DotC):SS:=
 if d.count≤mkN s.ms d.a then s else if d.count=mkN s.ms d.a+1 then⟨setR s.ms d.m,s.left,true⟩else⟨s.ms,s.left++[d],s.again⟩
structure Settl (M:List MarkC)(D:List DotC)(ms:List MarkC)(ds:List DotC):Prop where
 hm:ms.Pairwise ltM
 hp:∀m∈ms,1≤m.count
 hs:ds.Pairwise ltD
 hd:∀d∈ds,1≤d.count
 hl:ms.length+ds.length≤M.length+D.length
 hr:∀d,Raw ms ds d↔Raw M D d
structure Round (ms0:List MarkC)(ds:List DotC)(s:SS)(i:Nat):Prop where
 hm:s.ms.Pairwise ltM
 hp:∀m∈s.ms,1≤m.count
 hsub:s.left.Sublist (ds.take i)
 hlen:s.ms.length+s.left.length≤ms0.length+(ds.take i).length
 hr:∀d,Raw s.ms s.left d↔Raw ms0 (ds.take i) d
 hag:s.again=true→s.left.length<(ds.take i).length
 hno:s.again=false→∀d∈s.left,mkN s.ms d.a+1<d.count
theorem Round.zero {ms:List MarkC}(ds:List DotC)(hm:ms.Pairwise ltM)(hp:∀m∈ms,1≤m.count):Round ms ds ⟨ms,[],false⟩ 0:=
 ⟨hm,hp,by simp,by simp,by simp,by simp,by simp⟩
theorem mkN_raw {ms:List MarkC}(h:ms.Pairwise ltM){a:ActorC}{c:Int}(hc:1≤c):(∃m∈ms,m.d.a=a∧c≤m.count)↔c≤mkN ms a:=by
 constructor
 ·rintro⟨m,hm,rfl,h2⟩;rw[mkN_of_mem h hm];exact h2
 ·intro h2;obtain⟨m,hm,h3,h4⟩:=mkN_mem (ms:=ms) (a:=a) (by omega);exact⟨m,hm,h3,by omega⟩
theorem Round.step {ms0:List MarkC}{ds:List DotC}{s:SS}{i:Nat}{d:DotC}(h:Round ms0 ds s i)(hd:ds[i]? =some d)(hc:1≤d.count):Round ms0 ds (setlS s d) (i+1):=by
 obtain⟨hi,rfl⟩:=List.getElem?_eq_some_iff.1 hd
 have ht:=List.take_succ_eq_append_getElem hi
 have hl:(ds.take (i+1)).length=(ds.take i).length+1:=by rw[ht,List.length_append,List.length_singleton]
 have hraw:∀x,Raw ms0 (ds.take (i+1)) x↔Raw ms0 (ds.take i) x∨x=ds[i]:=fun x=>by
  rw[ht];simp only[Raw,List.mem_append,List.mem_singleton]
  constructor
  ·rintro⟨h1,h2|h2|h2⟩
   ·exact .inl ⟨h1,.inl h2⟩
   ·exact .inl ⟨h1,.inr h2⟩
   ·exact .inr h2
  ·rintro(⟨h1,h2|h2⟩|rfl)
   ·exact⟨h1,.inl h2⟩
   ·exact⟨h1,.inr (.inl h2)⟩
   ·exact⟨hc,.inr (.inr rfl)⟩
 unfold setlS
 split
 ·rename_i h1
  refine⟨h.hm,h.hp,ht▸h.hsub.trans (List.sublist_append_left ..),by have:=h.hlen;omega,fun x=> ?_,fun e=>by have:=h.hag e;omega,h.hno⟩
  rw[hraw,←h.hr]
  constructor
  ·exact .inl
  ·rintro(h2|rfl)
   ·exact h2
   ·exact⟨hc,.inl ((mkN_raw h.hm hc).2 h1)⟩
 ·split
  ·rename_i h1 h2
   rw[setR_eq h.hm]
   refine⟨maxM_sorted h.hm,maxM_pos h.hp hc,ht▸h.hsub.trans (List.sublist_append_left ..),by have:=maxM_len s.ms ds[i].m;have:=h.hlen;simp only;omega,fun x=> ?_,fun _=>by have:=h.hsub.length_le;simp only;omega,fun e=>by cases e⟩
   rw[hraw,←h.hr]
   simp only[Raw,maxM_raw]
   constructor
   ·rintro⟨h3,(h4|⟨h4,h5⟩)|h4⟩
    ·exact .inl ⟨h3,.inl h4⟩
    ·replace h4:ds[i].a=x.a:=h4
     replace h5:x.count≤ds[i].count:=h5
     by_cases h6:x.count=ds[i].count
     ·right;simp only[DotC.a,ActorC.mk.injEq]at h4;exact DotC.eta h4.1.symm h4.2.symm h6
     ·exact .inl ⟨h3,.inl ((mkN_raw h.hm h3).2 (by rw[←h4];omega))⟩
    ·exact .inl ⟨h3,.inr h4⟩
   ·rintro(⟨h3,h4|h4⟩|rfl)
    ·exact⟨h3,.inl (.inl h4)⟩
    ·exact⟨h3,.inr h4⟩
    ·exact⟨hc,.inl (.inr ⟨rfl,Int.le_refl _⟩)⟩
  ·rename_i h1 h2
   refine⟨h.hm,h.hp,ht▸h.hsub.append (List.Sublist.refl _),by have:=h.hlen;rw[hl,List.length_append,List.length_singleton];simp only;omega,fun x=> ?_,fun e=>by have:=h.hag e;rw[hl,List.length_append,List.length_singleton];omega,fun e x hx=> ?_⟩
   ·rw[hraw,←h.hr]
    simp only[Raw,List.mem_append,List.mem_singleton]
    constructor
    ·rintro⟨h3,h4|h4|h4⟩
     ·exact .inl ⟨h3,.inl h4⟩
     ·exact .inl ⟨h3,.inr h4⟩
     ·exact .inr h4
    ·rintro(⟨h3,h4|h4⟩|rfl)
     ·exact⟨h3,.inl h4⟩
     ·exact⟨h3,.inr (.inl h4)⟩
     ·exact⟨hc,.inr (.inr rfl)⟩
   ·rcases List.mem_append.1 hx with hx|hx
    ·exact h.hno e x hx
    ·simp only[List.mem_singleton]at hx;subst hx;simp only;omega
theorem Settl.round {M ms:List MarkC}{D ds:List DotC}{s:SS}(h:Settl M D ms ds)(hr:Round ms ds s ds.length):Settl M D s.ms s.left:=by
 have hs:=hr.hsub;rw[List.take_length]at hs
 refine⟨hr.hm,hr.hp,h.hs.sublist hs,fun d hd=>h.hd d (hs.subset hd),by have h1:=hr.hlen;have:=h.hl;rw[List.take_length]at h1;omega,fun d=> ?_⟩
 rw[hr.hr,List.take_length];exact h.hr d
theorem Settl.done {M ms:List MarkC}{D ds:List DotC}(h:Settl M D ms ds)(hM:∀m∈M,1≤m.count)(hD:∀d∈D,1≤d.count)(hn:∀d∈ds,mkN ms d.a+1<d.count):normX M D=(ms,ds):=
 have hc:Canon ms ds:=⟨h.hm,h.hp,h.hs,hn⟩
 normX_eq hM hD hc (hc.of_raw h.hr)
def leqX (ms:List MarkC)(cl:List DotC)(ms':List MarkC)(cl':List DotC):Prop:=(∀m∈ms,m.count≤mkN ms' m.d.a)∧∀d∈cl,Cov ms' cl' d
instance (ms :List MarkC)(cl:List DotC)(ms':List MarkC)(cl':List DotC):Decidable (leqX ms cl ms' cl'):=by unfold leqX;infer_instance
theorem Canon.next {ms:List MarkC}{cl:List DotC}(h:Canon ms cl){d:DotC}(hd:d.count=mkN ms d.a+1):¬d∈cl:=fun hm=>by have:=h.hg d hm;omega
theorem mkN_bd {ms:List MarkC}(h:∀i,okM ms i)(a:ActorC):0≤mkN ms a∧mkN ms a≤1099511627776:=by
 by_cases hz:mkN ms a=0
 ·omega
 ·obtain⟨m,hm,-,e⟩:=mkN_mem hz
  obtain⟨j,hj,rfl⟩:=List.getElem_of_mem hm
  have:=(h j _ (List.getElem?_eq_getElem hj)).1
  simp only[mayD,MarkC.d]at this
  omega
theorem okM_all {ms:List MarkC}{i:Nat}(h:∀j,j<i→okM ms j)(hi:ms.length≤i):∀j,okM ms j:=fun j m hm=>by
 obtain⟨hj,-⟩:=List.getElem?_eq_some_iff.1 hm
 exact h j (by omega) m hm
theorem okC_all {ms:List MarkC}{cl:List DotC}{i:Nat}(h:∀j,j<i→okC ms cl j)(hi:cl.length≤i):∀j,okC ms cl j:=fun j d hd=>by
 obtain⟨hj,-⟩:=List.getElem?_eq_some_iff.1 hd
 exact h j (by omega) d hd
theorem upto_succ {p:Nat→Prop}{i:Nat}(h:∀j,j<i→p j)(hi:p i):∀j,j<i+1→p j:=fun j hj=>by
 by_cases e:j=i
 ·subst e;exact hi
 ·exact h j (by omega)
theorem prevN {i:Nat}(h:0<i):(((i:Nat):Int)-1).toNat=i-1:=by omega
theorem notM {ms:List MarkC}{i:Nat}{m x:MarkC}(hm:ms[i]? =some m)(hi:0<i)(hx:ms[i-1]? =some x)(h:¬ltM x m):¬okM ms i:=fun ho=>h ((ho m hm).2 hi x hx)
theorem isM {ms:List MarkC}{i:Nat}{m:MarkC}(hm:ms[i]? =some m)(h1:mayD m.d)(h2:0<i→∀x,ms[i-1]? =some x→ltM x m):okM ms i:=fun m' hm'=>by
 rw[hm]at hm';cases hm';exact⟨h1,h2⟩
theorem isC {ms:List MarkC}{cl:List DotC}{i:Nat}{d:DotC}(hd:cl[i]? =some d)(h1:mayD d)(h2:0<i→∀x,cl[i-1]? =some x→ltD x d)(h3:mkN ms d.a+1<d.count):okC ms cl i:=fun d' hd'=>by
 rw[hd]at hd';cases hd';exact⟨h1,h2,h3⟩
theorem theOne {α:Type}{xs:List α}{i:Nat}{x y:α}{p:α→Prop}(hx:xs[i]? =some x)(h:p x)(hy:xs[i]? =some y):p y:=by rw[hx]at hy;cases hy;exact h
theorem ordD_le {x m:MarkC}(h:0≤ordD ⟨x.node,x.life,0⟩ ⟨m.node,m.life,0⟩):¬ltM x m:=ordD_z.1 h
theorem ordD_lt' {x m:MarkC}(h:ordD ⟨x.node,x.life,0⟩ ⟨m.node,m.life,0⟩<0):ltM x m:=Decidable.byContradiction fun h2=>absurd (ordD_z.2 h2) (Int.not_le.2 h)
attribute [local irreducible] mayD smD ltD ltM ordD mkN Cov CovR
attribute [local irreducible] X
theorem can_ (am:Option Addr)(ms:List MarkC)(cm:Nat)(ac:Option Addr)(cl:List DotC)(cc:Nat)(w:World)(hs:SlOf w am ms)(ht:SlOf w ac cl)(hl:ms.length≤4294967295)(hl2:cl.length≤4294967295):
  Calls Tryz.prog 86 #[.agg #[.slice (am) (ms.length) (cm),.slice (ac) (cl.length) (cc)]] w (Ret (fun v w'=>v= .bool (canX ms cl)∧Ext w w')):=by
 refine calls_run (n:=88) Tryz.func86 rfl rfl rfl ?_;refine jG ?_;refine jR<|jB ?_;intro a3 aI au a0 aD;have:w.heap.size≤a3:=au;clear au;have K0:=(aD:Ext w _);refine jG ?_;refine jV (x_or rfl rfl rfl) ?_;refine jG ?_;refine jF ?_ ?_
 ·intro hc17
  refine jG ?_;refine jJ Tryz.func86 ?_;exact⟨_,rfl,by rw[canX_no (fun h=>by have:=h.1;have:=h.2.1;omega)],K0⟩
 ·intro hc17
  have hl64:ms.length≤64:=by omega
  have hl65:cl.length≤64:=by omega
  refine jG ?_;refine Run.loop (ι:=Nat) (fun i ρ' w'=>Holds ρ' [(1,jp a3),(19,.slice (am) (ms.length) (cm)),(20,.int .i64 (((ms.length:Nat):Int))),(21,.int .i64 (((i:Nat):Int)))]∧Ext w w'∧(Blk w' a3 [.slice (am) (ms.length) (cm),.slice (ac) (cl.length) (cc)] 27)∧(i≤ms.length)∧(∀j,j<i→okM ms j)) (fun i=>ms.length-i) 0 ?_ ?_
  ·refine⟨⟨rfl,rfl,rfl,rfl,trivial⟩,K0,a0,?_,?_⟩
   ·omega
   ·exact fun j hj=>absurd hj (Nat.not_lt_zero j)
  clear a0;clear K0;rintro i aJ aK ⟨av,K0,a0,hi,hk⟩ ih1;obtain⟨ρ₀,rfl⟩:=av.ex;clear av;refine jG ?_;refine jF ?_ ?_
  ·intro hc22
   refine jG1 ?_;obtain⟨aL,aM,m,hm,aE,a5⟩:=hs.eo i;have hc_12_lt:=a5.lt;refine jV (x_idxN Tryz.underlying24 ty112 rfl rfl aE (by first|omega|(simp only[List.length_set];omega))) ?_;replace a5:=a5.ext K0;refine jG ?_;refine jR<|jA ?_;intro aN aO a6 a2 aw;have aP:=ltLe a0.lt a6;have aQ:=ltLe a5.lt a6;have:=Nat.le_trans K0.size a6;clear a6;refine jG ?_;refine jR<|jS a2 ?_;intro aR a2 ax;refine jG ?_;refine jR<|jC (first_ m _) ?_;rintro _ aS ⟨rfl,ab⟩;refine jR<|jC (may_ (MarkC.d m) _) ?_;rintro _ aT ⟨rfl,ad⟩;refine jG ?_;replace a0:=(((a0.ext aw).kp ax).ext ab).ext ad;replace K0:=(((K0.ext aw).n1 ax).ext ab).ext ad;replace a2:=(a2.ext ab).ext ad;refine jF ?_ ?_
   ·intro hc29
    refine jG ?_;refine jJ Tryz.func86 ?_;exact⟨_,rfl,by rw[canX_no (fun h=>hc29 (h.2.2.1 i m hm).1)],K0⟩
   ·intro hc29
    refine jG ?_;refine jF ?_ ?_
    ·intro hc31
     refine jG ?_;refine jV (x_sub rfl rfl (by omega) (by omega)) ?_;obtain⟨aU,aV,x,hx,aF,a7⟩:=hs.el (i:=(((i:Nat):Int)-1).toNat) (by first|omega|(simp only[List.length_set];omega));have hc_31_lt:=a7.lt;refine jV (x_idxZ Tryz.underlying24 ty112 rfl rfl aF (by omega) (by first|omega|(simp only[List.length_set];omega))) ?_;replace a7:=a7.ext K0;refine jG ?_;refine jR<|jA ?_;intro aW aX a4 ay ae;have aY:=ltLe a0.lt a4;have aZ:=ltLe a2.lt a4;have b0:=ltLe a7.lt a4;have:=Nat.le_trans K0.size a4;clear a4;refine jR<|jS ay ?_;intro b1 ay af;have hxm:=(hk _ (by omega) x hx).1;refine jG ?_;refine jV (x_build (cells:=#[.int .i64 ((x).node),.int .i64 ((x).life),.int .i64 (0)]) (by kernel_rfl)) ?_;replace a2:=(a2.ext ae).kp af;refine jG ?_;refine jV (x_build (cells:=#[.int .i64 ((m).node),.int .i64 ((m).life),.int .i64 (0)]) (by kernel_rfl)) ?_;refine jR<|jC (order_ (⟨(x).node,(x).life,0⟩:DotC) (⟨(m).node,(m).life,0⟩:DotC) _ (mayD.z hxm) (mayD.z hc29)) ?_;rintro _ b2 ⟨rfl,az⟩;refine jG ?_;replace a0:=((a0.ext ae).kp af).ext az;replace K0:=((K0.ext ae).n1 af).ext az;refine jF ?_ ?_
     ·intro hc49
      refine jG ?_;refine jJ Tryz.func86 ?_;exact⟨_,rfl,by rw[canX_no (fun h=>notM hm (by omega) (by rw[←prevN (by omega)];exact hx) (ordD_le hc49) (h.2.2.1 i))],K0⟩
     ·intro hc49
      refine jG ?_;refine jV (litI (c:=((i+1:Nat):Int)) (x_add rfl rfl (by omega) (by omega)) rfl) ?_;refine jG ?_;refine ih1 (i+1) _ _ ?_ (by omega);refine⟨⟨rfl,rfl,rfl,rfl,trivial⟩,K0,a0,?_,?_⟩
      ·omega
      ·exact upto_succ hk (isM hm hc29 (fun h_ _=>theOne (p:=fun y=>ltM y m) (by rw[←prevN (by omega)];exact hx) (ordD_lt' hc49)))
    ·intro hc31
     refine jG ?_;refine jV (litI (c:=((i+1:Nat):Int)) (x_add rfl rfl (by omega) (by omega)) rfl) ?_;refine jG ?_;refine ih1 (i+1) _ _ ?_ (by omega);refine⟨⟨rfl,rfl,rfl,rfl,trivial⟩,K0,a0,?_,?_⟩
     ·omega
     ·exact upto_succ hk (isM hm hc29 (fun h_=>absurd h_ (by omega)))
  ·intro hc22
   refine jG ?_;refine Run.loop (ι:=Nat) (fun i ρ' w'=>Holds ρ' [(1,jp a3),(52,.slice (ac) (cl.length) (cc)),(53,.int .i64 (((cl.length:Nat):Int))),(54,.int .i64 (((i:Nat):Int)))]∧Ext w w'∧(Blk w' a3 [.slice (am) (ms.length) (cm),.slice (ac) (cl.length) (cc)] 27)∧(i≤cl.length)∧(∀j,j<i→okC ms cl j)) (fun i=>cl.length-i) 0 ?_ ?_
   ·refine⟨⟨rfl,rfl,rfl,rfl,trivial⟩,K0,a0,?_,?_⟩
    ·omega
    ·exact fun j hj=>absurd hj (Nat.not_lt_zero j)
   clear a0;clear K0;rintro i b3 b4 ⟨aA,K0,a0,hi,hk2⟩ ih2;obtain⟨ρ₀,rfl⟩:=aA.ex;clear aA;refine jG ?_;refine jF ?_ ?_
   ·intro hc55
    refine jG1 ?_;obtain⟨b5,b6,d,hd,aG,a8⟩:=ht.eo i;have hc_52_lt:=a8.lt;refine jV (x_idxN Tryz.underlying25 ty87 rfl rfl aG (by first|omega|(simp only[List.length_set];omega))) ?_;replace a8:=a8.ext K0;refine jG ?_;refine jR<|jA ?_;intro b7 b8 a9 a1 aB;have b9:=ltLe a0.lt a9;have ba:=ltLe a8.lt a9;have:=Nat.le_trans K0.size a9;clear a9;refine jG ?_;refine jR<|jS a1 ?_;intro bb a1 aC;refine Jct ?_;replace a0:=(a0.ext aB).kp aC;replace K0:=(K0.ext aB).n1 aC;by_cases hA:mayD d
    ·by_cases hB:0<i
     ·have hmk:=mkN_bd (okM_all hk (by omega)) d.a
      refine Run.drawS [] [1000,2001,2,3,4,5,6,7,1008,9,10,11,1013,2012,2014,15,16,17,18,19,1020,1021,1022,2023,2024,25,26,27] ?_;intro bc ag;replace a0:=a0.ext ag;replace a1:=a1.ext ag;refine jM (jb a0 (jb a1 Jn)) ?_;refine jG ?_;refine jU rfl<|jC (may_ d _) ?_;rintro _ be ⟨rfl,ah⟩;replace a0:=a0.ext ah;replace a1:=a1.ext ah;refine Jct ?_;refine jP ?_ (hx:=by exact fun _=>(litF (x_not rfl) (by simp[hA])));refine jG2 ?_;refine jQ ?_ (hx:=by exact fun _ hg=>(litT (x_gtI rfl rfl) (by simp;omega)));refine jG ?_;refine jQ ?_ (hx:=by exact fun _ hg=>(x_sub rfl rfl (by omega) (by omega)));obtain⟨bg,bh,x,hx,aH,aa⟩:=ht.el (i:=(((i:Nat):Int)-1).toNat) (by first|omega|(simp only[List.length_set];omega));have hc_71_lt:=aa.lt;replace K0:=(K0.ext ag).ext ah;refine jQ ?_ (hx:=by exact fun _ hg=>(x_idxZ Tryz.underlying25 ty87 rfl rfl aH (by omega) (by first|omega|(simp only[List.length_set];omega))));refine jG ?_;replace aa:=aa.ext K0;refine jX rfl<|jO (x_ldV (v:= .agg #[.int .i64 ((x).node),.int .i64 ((x).life),.int .i64 ((x).count)]) (y:=x) ty87 rfl aa rfl) ?_;refine jG ?_;refine jX rfl<|jC (order_ x d _ (hk2 _ (by omega) x hx).1.sm hA.sm) ?_;rintro _ bi ⟨rfl,ai⟩;replace a0:=a0.ext ai;replace a1:=a1.ext ai;refine jG ?_;refine jQ ?_ (hx:=by exact fun _ hg=>(x_andT rfl rfl rfl));refine jP ?_ (hx:=by exact fun _=>(x_orF rfl rfl rfl));refine jG ?_;refine jZ (fun hg=>(actor_ d _)) ?_;intro bj aj;replace a0:=a0.ext aj;replace a1:=a1.ext aj;refine jG ?_;replace K0:=(K0.ext ai).ext aj;refine jZ (fun hg=>(mark_ am ms cm ac cl cc (DotC.a d) _ (hs.ext K0) (ht.ext K0) (by omega) (by omega))) ?_;intro bk ak;replace a0:=a0.ext ak;replace a1:=a1.ext ak;refine jG ?_;refine jQ ?_ (hx:=by exact fun _ hg=>(x_add (gvr hg) rfl (by omega) (by omega)));refine jG ?_;refine jP ?_ (hx:=by exact fun _=>(x_or rfl rfl rfl));refine jG ?_;replace K0:=K0.ext ak;refine jF ?_ ?_
      ·intro hc86
       refine jG ?_;refine jJ Tryz.func86 ?_;exact⟨_,rfl,by rw[canX_no (fun h=>hc86.elim (fun h4=>absurd ((h.2.2.2 i d hd).2.1 (by omega) x (by rw[←prevN (by omega)];exact hx)) (ordD_ge.1 h4)) (fun h4=>absurd h4 (Int.not_le.2 (h.2.2.2 i d hd).2.2)))],K0⟩
      ·intro hc86
       refine jG ?_;refine jV (litI (c:=((i+1:Nat):Int)) (x_add rfl rfl (by omega) (by omega)) rfl) ?_;refine jG ?_;refine ih2 (i+1) _ _ ?_ (by omega);refine⟨⟨rfl,rfl,rfl,rfl,trivial⟩,K0,a0,?_,?_⟩
       ·omega
       ·exact upto_succ hk2 (isC hd hA (fun h_ _=>theOne (p:=fun y=>ltD y d) (by rw[←prevN (by omega)];exact hx) (ordD_lt.1 hc86.1)) hc86.2)
     ·have hmk:=mkN_bd (okM_all hk (by omega)) d.a
      refine Run.drawS [] [1000,2001,2,3,4,5,6,7,8,9,10,11,12,13,2014,15,16,17,18,19,1020,1021,1022,2023,2024,25,26,27] ?_;intro bl al;replace a0:=a0.ext al;replace a1:=a1.ext al;refine jM (jb a0 (jb a1 Jn)) ?_;refine jG ?_;refine jU rfl<|jC (may_ d _) ?_;rintro _ bm ⟨rfl,an⟩;replace a0:=a0.ext an;replace a1:=a1.ext an;refine Jct ?_;refine jP ?_ (hx:=by exact fun _=>(litF (x_not rfl) (by simp[hA])));refine jG2 ?_;refine jQ ?_ (hx:=by exact fun _ hg=>(litF (x_gtI rfl rfl) (by simp;omega)));refine jG ?_;refine jY ?_;refine jG ?_;refine jQ ?_ (hx:=by exact fun _ hg=>(x_and (b:=false) (e:=false) rfl rfl rfl));refine jP ?_ (hx:=by exact fun _=>(x_orF rfl rfl rfl));refine jG ?_;refine jX rfl<|jC (actor_ d _) ?_;rintro _ bn ⟨rfl,ao⟩;replace a0:=a0.ext ao;replace a1:=a1.ext ao;refine jG ?_;replace K0:=((K0.ext al).ext an).ext ao;refine jX rfl<|jC (mark_ am ms cm ac cl cc (DotC.a d) _ (hs.ext K0) (ht.ext K0) (by omega) (by omega)) ?_;rintro _ bo ⟨rfl,ap⟩;replace a0:=a0.ext ap;replace a1:=a1.ext ap;refine jG ?_;refine jQ ?_ (hx:=by exact fun _ hg=>(x_add rfl rfl (by omega) (by omega)));refine jG ?_;refine jP ?_ (hx:=by exact fun _=>(x_orF rfl rfl rfl));refine jG ?_;replace K0:=K0.ext ap;refine jF ?_ ?_
      ·intro hc86
       refine jG ?_;refine jJ Tryz.func86 ?_;exact⟨_,rfl,by rw[canX_no (fun h=>absurd hc86 (Int.not_le.2 (h.2.2.2 i d hd).2.2))],K0⟩
      ·intro hc86
       refine jG ?_;refine jV (litI (c:=((i+1:Nat):Int)) (x_add rfl rfl (by omega) (by omega)) rfl) ?_;refine jG ?_;refine ih2 (i+1) _ _ ?_ (by omega);refine⟨⟨rfl,rfl,rfl,rfl,trivial⟩,K0,a0,?_,?_⟩
       ·omega
       ·exact upto_succ hk2 (isC hd hA (fun h_=>absurd h_ (by omega)) hc86)
    ·skip
     refine Run.drawS [] [1000,2001,2,3,4,5,6,7,8,9,10,11,12,13,2014,15,16,17,18,19,20,21,22,2023,2024,25,26,27] ?_;intro bp aq;replace a0:=a0.ext aq;replace a1:=a1.ext aq;refine jM (jb a0 (jb a1 Jn)) ?_;refine jG ?_;refine jU rfl<|jC (may_ d _) ?_;rintro _ bq ⟨rfl,ar⟩;replace a0:=a0.ext ar;replace a1:=a1.ext ar;refine Jct ?_;refine jP ?_ (hx:=by exact fun _=>(litT (x_not rfl) (by simp[hA])));refine jG ?_;refine jY ?_;refine jG ?_;refine jP ?_ (hx:=by exact fun _=>(x_or (b:=true) (e:=false) rfl rfl rfl));refine jG ?_;refine jY ?_;refine jG ?_;refine jY ?_;refine jG ?_;refine jP ?_ (hx:=by exact fun _=>(x_or (b:=true) (e:=false) rfl rfl rfl));refine jG ?_;refine jT1 ?_;refine jG ?_;refine jJ Tryz.func86 ?_;replace K0:=(K0.ext aq).ext ar;exact⟨_,rfl,by rw[canX_no (fun h=>hA (h.2.2.2 i d hd).1)],K0⟩
   ·intro hc55
    refine jG ?_;refine jJ Tryz.func86 ?_;exact⟨_,rfl,by rw[canX_yes ⟨hl64,hl65,okM_all hk (by omega),okC_all hk2 (by omega)⟩],K0⟩
theorem rcan_ (am:Option Addr)(ms:List MarkC)(cm:Nat)(ac:Option Addr)(cl:List DotC)(cc:Nat)(w:World)(hs:SlOf w am ms)(ht:SlOf w ac cl)(hl:ms.length≤4294967295)(hl2:cl.length≤4294967295):
  Calls Tryz.prog 36 #[.agg #[.slice (am) (ms.length) (cm),.slice (ac) (cl.length) (cc)]] w (Ret (fun v w'=>v= .bool (canX ms cl)∧Ext w w')):=by
 refine calls_run (n:=105) Tryz.func36 rfl rfl rfl ?_;refine jG ?_;refine jR<|jB ?_;intro a5 aM ao a0 ay;have:w.heap.size≤a5:=ao;clear ao;have K0:=(ay:Ext w _);refine jG ?_;refine jV (x_or rfl rfl rfl) ?_;refine jG ?_;refine jF ?_ ?_
 ·intro hc16
  refine jG ?_;refine jJ Tryz.func36 ?_;exact⟨_,rfl,by rw[canX_no (fun h=>by have:=h.1;have:=h.2.1;omega)],K0⟩
 ·intro hc16
  have hl64:ms.length≤64:=by omega
  have hl65:cl.length≤64:=by omega
  refine jG ?_;refine Run.loop (ι:=Nat) (fun i ρ' w'=>Holds ρ' [(1,jp a5),(18,.slice (am) (ms.length) (cm)),(19,.int .i64 (((ms.length:Nat):Int))),(20,.int .i64 (((i:Nat):Int)))]∧Ext w w'∧(Blk w' a5 [.slice (am) (ms.length) (cm),.slice (ac) (cl.length) (cc)] 27)∧(i≤ms.length)∧(∀j,j<i→okM ms j)) (fun i=>ms.length-i) 0 ?_ ?_
  ·refine⟨⟨rfl,rfl,rfl,rfl,trivial⟩,K0,a0,?_,?_⟩
   ·omega
   ·exact fun j hj=>absurd hj (Nat.not_lt_zero j)
  clear a0;clear K0;rintro i aN aO ⟨ap,K0,a0,hi,hk⟩ ih1;obtain⟨ρ₀,rfl⟩:=ap.ex;clear ap;refine jG ?_;refine jF ?_ ?_
  ·intro hc21
   refine jG1 ?_;obtain⟨aP,aQ,m,hm,az,a6⟩:=hs.eo i;have hc_12_lt:=a6.lt;refine jV (x_idxN Tryz.underlying24 ty112 rfl rfl az (by first|omega|(simp only[List.length_set];omega))) ?_;replace a6:=a6.ext K0;refine jG ?_;refine jR<|jA ?_;intro aR aS a7 a2 aq;have aT:=ltLe a0.lt a7;have aU:=ltLe a6.lt a7;have:=Nat.le_trans K0.size a7;clear a7;refine jG ?_;refine jR<|jS a2 ?_;intro aV a2 ar;refine jG ?_;refine jR<|jC (rmaym_ m _) ?_;rintro _ aW ⟨rfl,ag⟩;refine jG ?_;replace a0:=((a0.ext aq).kp ar).ext ag;replace K0:=((K0.ext aq).n1 ar).ext ag;replace a2:=a2.ext ag;refine jF ?_ ?_
   ·intro hc27
    refine jG ?_;refine jJ Tryz.func36 ?_;exact⟨_,rfl,by rw[canX_no (fun h=>hc27 (h.2.2.1 i m hm).1)],K0⟩
   ·intro hc27
    refine Jct ?_;by_cases hB:0<i
    ·obtain⟨aX,aA,x,hx,aB,a8⟩:=hs.el (i:=(((i:Nat):Int)-1).toNat) (by first|omega|(simp only[List.length_set];omega))
     have hc_31_lt:=a8.lt;obtain⟨aY,aC,aD,aE,aF,a9⟩:=hs.el (i:=(((i:Nat):Int)-1).toNat) (by first|omega|(simp only[List.length_set];omega));have hc_37_lt:=a9.lt;obtain rfl:x=aD:=Option.some.inj (hx.symm.trans aE);obtain⟨aZ,aG,aH,aI,aJ,aa⟩:=hs.el (i:=(((i:Nat):Int)-1).toNat) (by first|omega|(simp only[List.length_set];omega));have hc_43_lt:=aa.lt;obtain rfl:x=aH:=Option.some.inj (hx.symm.trans aI);refine Run.drawR ?_;intro b0 a3;refine jG1 ?_;refine jD (litT (x_gtI rfl rfl) (by simp;omega)) ?_;replace a0:=a0.ext a3;refine jG ?_;refine jE ?_ (hx:=by exact fun hg=>(x_sub rfl rfl (by omega) (by omega)));refine jE ?_ (hx:=by exact fun hg=>(x_idxZ Tryz.underlying24 ty112 rfl rfl aB (by omega) (by first|omega|(simp only[List.length_set];omega))));refine jE ?_ (hx:=by exact fun hg=>(x_fld (o':=aA+(((i:Nat):Int)-1).toNat*3+0) Tryz.underlying112 rfl ty3 rfl rfl rfl));replace a8:=(a8.ext K0).ext a3;refine jE ?_ (hx:=by exact fun hg=>(x_ld ty3 rfl rfl (a8.field (i:=0) rfl)));replace a2:=a2.ext a3;refine jG ?_;refine jE ?_ (hx:=by exact fun hg=>(x_sub (gvr hg) rfl (by omega) (by omega)));refine jE ?_ (hx:=by exact fun hg=>(x_idxZ Tryz.underlying24 ty112 (gvr hg) (gvr hg) aF (by omega) (by first|omega|(simp only[List.length_set];omega))));refine jE ?_ (hx:=by exact fun hg=>(x_fld (o':=aC+(((i:Nat):Int)-1).toNat*3+0) Tryz.underlying112 rfl ty3 rfl (gvr hg) rfl));replace a9:=(a9.ext K0).ext a3;refine jE ?_ (hx:=by exact fun hg=>(x_ld ty3 (gvr hg) rfl (a9.field (i:=0) rfl)));refine jG ?_;refine jE ?_ (hx:=by exact fun hg=>(x_sub (gvr hg) rfl (by omega) (by omega)));refine jE ?_ (hx:=by exact fun hg=>(x_idxZ Tryz.underlying24 ty112 (gvr hg) (gvr hg) aJ (by omega) (by first|omega|(simp only[List.length_set];omega))));refine jE ?_ (hx:=by exact fun hg=>(x_fld (o':=aG+(((i:Nat):Int)-1).toNat*3+1) Tryz.underlying112 rfl ty3 rfl (gvr hg) rfl));replace aa:=(aa.ext K0).ext a3;refine jE ?_ (hx:=by exact fun hg=>(x_ld ty3 (gvr hg) rfl (aa.field (i:=1) rfl)));refine jG ?_;refine jE ?_ (hx:=by exact fun hg=>(x_andG hg rfl rfl rfl));refine jE ?_ (hx:=by exact fun hg=>(x_or rfl rfl rfl));refine jD (x_andT rfl rfl rfl) ?_;refine jG ?_;replace K0:=K0.ext a3;refine jF ?_ ?_
     ·intro hc65
      refine jG ?_;refine jJ Tryz.func36 ?_;exact⟨_,rfl,by rw[canX_no (fun h=>notM hm hB (by rw[←prevN (by omega)];exact hx) (by unfold ltM;omega) (h.2.2.1 i))],K0⟩
     ·intro hc65
      refine jG ?_;refine jV (litI (c:=((i+1:Nat):Int)) (x_add rfl rfl (by omega) (by omega)) rfl) ?_;refine jG ?_;refine ih1 (i+1) _ _ ?_ (by omega);refine⟨⟨rfl,rfl,rfl,rfl,trivial⟩,K0,a0,?_,?_⟩
      ·omega
      ·exact upto_succ hk (isM hm hc27 (fun h_ _=>theOne (p:=fun y=>ltM y m) (by rw[←prevN (by omega)];exact hx) (by unfold ltM;omega)))
    ·refine Run.drawR ?_
     intro b1 au;refine jG1 ?_;refine jD (litF (x_gtI rfl rfl) (by simp;omega)) ?_;refine jG ?_;refine jD (x_and (b:=false) (e:=false) rfl rfl rfl) ?_;refine jG ?_;refine Run.condF rfl ?_;refine jG ?_;refine jV (litI (c:=((i+1:Nat):Int)) (x_add rfl rfl (by omega) (by omega)) rfl) ?_;refine jG ?_;refine ih1 (i+1) _ _ ?_ (by omega);replace a0:=a0.ext au;replace K0:=K0.ext au;refine⟨⟨rfl,rfl,rfl,rfl,trivial⟩,K0,a0,?_,?_⟩
     ·omega
     ·exact upto_succ hk (isM hm hc27 (fun h_=>absurd h_ (by omega)))
  ·intro hc21
   refine jG ?_;refine Run.loop (ι:=Nat) (fun i ρ' w'=>Holds ρ' [(1,jp a5),(68,.slice (ac) (cl.length) (cc)),(69,.int .i64 (((cl.length:Nat):Int))),(70,.int .i64 (((i:Nat):Int)))]∧Ext w w'∧(Blk w' a5 [.slice (am) (ms.length) (cm),.slice (ac) (cl.length) (cc)] 27)∧(i≤cl.length)∧(∀j,j<i→okC ms cl j)) (fun i=>cl.length-i) 0 ?_ ?_
   ·refine⟨⟨rfl,rfl,rfl,rfl,trivial⟩,K0,a0,?_,?_⟩
    ·omega
    ·exact fun j hj=>absurd hj (Nat.not_lt_zero j)
   clear a0;clear K0;rintro i b2 b3 ⟨av,K0,a0,hi,hk2⟩ ih2;obtain⟨ρ₀,rfl⟩:=av.ex;clear av;refine jG ?_;refine jF ?_ ?_
   ·intro hc71
    refine jG1 ?_;obtain⟨b4,b5,d,hd,aK,ab⟩:=ht.eo i;have hc_54_lt:=ab.lt;refine jV (x_idxN Tryz.underlying25 ty87 rfl rfl aK (by first|omega|(simp only[List.length_set];omega))) ?_;replace ab:=ab.ext K0;refine jG ?_;refine jR<|jA ?_;intro b6 b7 ad a1 aw;have b8:=ltLe a0.lt ad;have b9:=ltLe ab.lt ad;have:=Nat.le_trans K0.size ad;clear ad;refine jG ?_;refine jR<|jS a1 ?_;intro ba a1 ax;refine Jct ?_;replace a0:=(a0.ext aw).kp ax;replace K0:=(K0.ext aw).n1 ax;by_cases hA:mayD d
    ·have hmk:=mkN_bd (okM_all hk (by omega)) (⟨d.node,d.life⟩:ActorC)
     refine Run.drawS [] [1000,2001,2,3,4,1005,6,1007,8,1009,10,1011,2012,13,14,15] ?_;intro bb ah;replace a0:=a0.ext ah;replace a1:=a1.ext ah;refine jM (jb a0 (jb a1 Jn)) ?_;refine jG ?_;refine jU rfl<|jC (rmay_ d _) ?_;rintro _ bc ⟨rfl,ai⟩;replace a0:=a0.ext ai;replace a1:=a1.ext ai;refine Jct ?_;refine jP ?_ (hx:=by exact fun _=>(litF (x_not rfl) (by simp[hA])));refine jG ?_;replace K0:=(K0.ext ah).ext ai;refine jX rfl<|jC (rmark_ _ ms _ ((d).node) ((d).life) _ (hs.ext K0) (by omega)) ?_;rintro _ be ⟨rfl,aj⟩;replace a0:=a0.ext aj;replace a1:=a1.ext aj;refine jG ?_;refine jQ ?_ (hx:=by exact fun _ hg=>(x_add rfl rfl (by omega) (by omega)));refine jG ?_;refine jP ?_ (hx:=by exact fun _=>(x_orF rfl rfl rfl));refine jG ?_;replace K0:=K0.ext aj;refine jF ?_ ?_
     ·intro hc90
      refine jG ?_;refine jJ Tryz.func36 ?_;exact⟨_,rfl,by rw[canX_no (fun h=>absurd hc90 (Int.not_le.2 (h.2.2.2 i d hd).2.2))],K0⟩
     ·intro hc90
      refine Jct ?_;by_cases hB:0<i
      ·obtain⟨bg,bh,x,hx,aL,a4⟩:=ht.el (i:=(((i:Nat):Int)-1).toNat) (by first|omega|(simp only[List.length_set];omega))
       have hc_77_lt:=a4.lt;refine Run.drawS [] [0,1,2,3,1004,5,6,7,1008,1009,2010,11,12] ?_;intro bi ae;replace a4:=(a4.ext K0).ext ae;replace a0:=a0.ext ae;replace a1:=a1.ext ae;refine jM (jb a0 (jb a1 (jl a4 Jn))) ?_;refine jG1 ?_;refine jP ?_ (hx:=by exact fun _=>(litT (x_gtI rfl rfl) (by simp;omega)));refine jG ?_;refine jQ ?_ (hx:=by exact fun _ hg=>(x_sub rfl rfl (by omega) (by omega)));refine jQ ?_ (hx:=by exact fun _ hg=>(x_idxZ Tryz.underlying25 ty87 rfl rfl aL (by omega) (by first|omega|(simp only[List.length_set];omega))));refine jG ?_;refine jX rfl<|jC (below_ x d _) ?_;rintro _ bj ⟨rfl,af⟩;replace a0:=a0.ext af;replace a1:=a1.ext af;replace a4:=a4.ext af;refine jG ?_;refine jP ?_ (hx:=by exact fun _=>(x_andT rfl rfl rfl));refine jG ?_;replace K0:=(K0.ext ae).ext af;refine jF ?_ ?_
       ·intro hc103
        refine jG ?_;refine jJ Tryz.func36 ?_;exact⟨_,rfl,by rw[canX_no (fun h=>hc103 ((h.2.2.2 i d hd).2.1 hB x (by rw[←prevN (by omega)];exact hx)))],K0⟩
       ·intro hc103
        refine jG ?_;refine jV (litI (c:=((i+1:Nat):Int)) (x_add rfl rfl (by omega) (by omega)) rfl) ?_;refine jG ?_;refine ih2 (i+1) _ _ ?_ (by omega);refine⟨⟨rfl,rfl,rfl,rfl,trivial⟩,K0,a0,?_,?_⟩
        ·omega
        ·exact upto_succ hk2 (isC hd hA (fun h_ _=>theOne (p:=fun y=>ltD y d) (by rw[←prevN (by omega)];exact hx) hc103) hc90)
      ·refine Run.drawS [] [0,1,2,3,4,5,6,7,8,9,2010,11,12] ?_
       intro bk ak;replace a0:=a0.ext ak;refine jM (jb a0 Jn) ?_;refine jG1 ?_;refine jP ?_ (hx:=by exact fun _=>(litF (x_gtI rfl rfl) (by simp;omega)));refine jG ?_;refine jY ?_;refine jG ?_;refine jP ?_ (hx:=by exact fun _=>(x_and (b:=false) (e:=false) rfl rfl rfl));refine jG ?_;refine Run.condF rfl ?_;refine jG ?_;refine jV (litI (c:=((i+1:Nat):Int)) (x_add rfl rfl (by omega) (by omega)) rfl) ?_;refine jG ?_;refine ih2 (i+1) _ _ ?_ (by omega);replace a1:=a1.ext ak;replace K0:=K0.ext ak;refine⟨⟨rfl,rfl,rfl,rfl,trivial⟩,K0,a0,?_,?_⟩
       ·omega
       ·exact upto_succ hk2 (isC hd hA (fun h_=>absurd h_ (by omega)) hc90)
    ·have hmk:=mkN_bd (okM_all hk (by omega)) (⟨d.node,d.life⟩:ActorC)
     refine Run.drawS [] [1000,2001,2,3,4,5,6,7,8,9,10,11,2012,13,14,15] ?_;intro bl al;replace a0:=a0.ext al;replace a1:=a1.ext al;refine jM (jb a0 (jb a1 Jn)) ?_;refine jG ?_;refine jU rfl<|jC (rmay_ d _) ?_;rintro _ bm ⟨rfl,an⟩;replace a0:=a0.ext an;replace a1:=a1.ext an;refine Jct ?_;refine jP ?_ (hx:=by exact fun _=>(litT (x_not rfl) (by simp[hA])));refine jG ?_;refine jY ?_;refine jG ?_;refine jP ?_ (hx:=by exact fun _=>(x_or (b:=true) (e:=false) rfl rfl rfl));refine jG ?_;refine jT1 ?_;refine jG ?_;refine jJ Tryz.func36 ?_;replace K0:=(K0.ext al).ext an;exact⟨_,rfl,by rw[canX_no (fun h=>hA (h.2.2.2 i d hd).1)],K0⟩
   ·intro hc71
    refine jG ?_;refine jJ Tryz.func36 ?_;exact⟨_,rfl,by rw[canX_yes ⟨hl64,hl65,okM_all hk (by omega),okC_all hk2 (by omega)⟩],K0⟩
end Go.Proofs.YtocgdeefgohdhaaGreat
namespace Go.Proofs.YtocgdeefgohdhaaGreat
attribute [local irreducible] RD RS St1 RL RA RT RT1 Run
theorem Canon.covR {ms:List MarkC}{cl:List DotC}{d:DotC}(h:Canon ms cl):CovR ms cl d↔Cov ms cl d:=by
 unfold CovR Cov
 constructor
 ·rintro(h1|h1)
  ·exact .inl h1
  ·exact .inr ⟨by have:=h.hg d h1;have:=h.pos d.a;omega,h1⟩
 ·rintro(h1|h1)
  ·exact .inl h1
  ·exact .inr h1.2
def setX (ms:List MarkC)(m:MarkC)(i:Nat):List MarkC×Bool:=(ms.take i).foldl (setS m) ([],false)
def insX (l:List DotC)(d:DotC)(i:Nat):List DotC×Bool:=(l.take i).foldl (insS d) ([],false)
theorem SetAll.at {M l:List MarkC}{i:Nat}{m:MarkC}(h:SetAll l (M.take i))(hm:M[i]? =some m)(hp:1≤m.count):SetAll (setR l m) (M.take (i+1)):=by
 obtain⟨hi,rfl⟩:=List.getElem?_eq_some_iff.1 hm
 rw[List.take_succ_eq_append_getElem hi];exact h.step hp
theorem InsAll.at {D l:List DotC}{i:Nat}{d:DotC}(h:InsAll l (D.take i))(hd:D[i]? =some d):InsAll (insR l d) (D.take (i+1)):=by
 obtain⟨hi,rfl⟩:=List.getElem?_eq_some_iff.1 hd
 rw[List.take_succ_eq_append_getElem hi];exact h.step _
theorem mayD.pos {d:DotC}(h:mayD d):1≤d.count:=by unfold mayD at h;omega
def ctx0 (e:Int):Int×List MarkC×List DotC:=(e,[],[])
def normE (M:List MarkC)(D:List DotC):Int×List MarkC×List DotC:=
 if (∃m∈M,¬mayD m.d)∨(∃d∈D,¬mayD d)then(1,[],[])else if 64<(normX M D).1.length∨64<(normX M D).2.length then(4,[],[])else(0,(normX M D).1,(normX M D).2)
noncomputable def joinE (ms:List MarkC)(cl:List DotC)(ms':List MarkC)(cl':List DotC):Int×List MarkC×List DotC:=
 if canX ms cl=true∧canX ms' cl'=true then normE (ms++ms') (cl++cl')else(30,[],[])
attribute [local irreducible] mayD smD ltD ltM ordD mkN Cov CovR
attribute [local irreducible] setX insX setR insR normE joinE normX
end Go.Proofs.YtocgdeefgohdhaaGreat
