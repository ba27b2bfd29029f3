/-
  Ca, Cb, Cc
-/
import Derived.Test.YtjkaicjmfgekjaaGreatDoorRows
import Derived.Test.YtjkaicjmfgekjaaGreatDoorPkWb
import Derived.Test.YtjkaicjmfgekjaaGreatDoorPkI
set_option linter.all false
set_option maxRecDepth 100000
set_option maxHeartbeats 4000000
namespace Go.Proofs.YtjkaicjmfgekjaaGreatDoor
open Go.Proofs.Tryz
attribute [local irreducible] RD RS Av RL RA RT CJ Aj
structure AU where
 node:Int
 life:Int
instance : Enc AU:=Enc.struct (fun t=>[.int .i64 t.node,.int .i64 t.life]) 2 (fun _=>rfl) (fun _ v hv=>by simp at hv;rcases hv with rfl|rfl<;>rfl) Zd
theorem AU.ext' {a b:AU}(h0:a.node=b.node)(h1:a.life=b.life):a=b:=by cases a;cases b;simp_all
instance : DecidableEq AU:=fun a b=>if h:a.node=b.node∧a.life=b.life then isTrue (AU.ext' h.1 h.2)else isFalse (fun e=>h (by subst e;exact⟨rfl,rfl⟩))
theorem NB (m:Nat)(a b:AU)(w:World):(Op.equalIn (m+2) 170 (.agg #[.int .i64 a.node,.int .i64 a.life]) (.agg #[.int .i64 b.node,.int .i64 b.life])).run prog w= .ok (decide (a=b)) w:=by
 have h:=run_equalIn_struct (P:=prog) w (m+1) 170 #[.int .i64 a.node,.int .i64 a.life] #[.int .i64 b.node,.int .i64 b.life] underlying170 Zk
 have h2:=(AP (P:=prog) (d:=m+1) (xs:=#[.int .i64 a.node,.int .i64 a.life]) (ys:=#[.int .i64 b.node,.int .i64 b.life]) (fd:=(prog.fieldsOf 170).toList[0]) (fs:=[(prog.fieldsOf 170).toList[1]]) (r:=a.node==b.node) Zk (Bh ty3 rfl) (Bh ty3 rfl) (fun w=>run_equalIn_int w m 3 .i64 .i64 a.node b.node underlying3) (AP (P:=prog) (d:=m+1) (xs:=#[.int .i64 a.node,.int .i64 a.life]) (ys:=#[.int .i64 b.node,.int .i64 b.life]) (fd:=(prog.fieldsOf 170).toList[1]) (fs:=[]) (r:=a.life==b.life) Zk (Bh ty3 rfl) (Bh ty3 rfl) (fun w=>run_equalIn_int w m 3 .i64 .i64 a.life b.life underlying3) (CV (m+1) _ _))) w
 refine h.trans (h2.trans ?_)
 congr 1
 rw[Bool.eq_iff_iff]
 simp only[Bool.and_eq_true,beq_iff_eq,and_true,decide_eq_true_eq,ER]
 exact⟨fun h=>AU.ext' h.1 h.2,fun h=>by subst h;exact⟨rfl,rfl⟩⟩
theorem Ko (a b:AU)(w:World):(Op.equalIn 10000 170 (.agg #[.int .i64 a.node,.int .i64 a.life]) (.agg #[.int .i64 b.node,.int .i64 b.life])).run prog w= .ok (decide (a=b)) w:=NB 9998 a b w
def FC (d:Ad):Prop:=(0≤d.node∧d.node≤4611686018427387904)∧(0≤d.life∧d.life≤4611686018427387904)∧(0≤d.count∧d.count≤4611686018427387904)
def AE (d:Ad):Prop:=(0≤d.node∧d.node<8)∧(1≤d.life∧d.life≤1099511627776)∧(1≤d.count∧d.count≤1099511627776)
instance : DecidablePred AE:=fun d=>by unfold AE;infer_instance
theorem AE.sm {d:Ad}(h:AE d):FC d:=by unfold AE at h;unfold FC;omega
abbrev Aa.d (m:Aa):Ad:=⟨m.node,m.life,m.count⟩
abbrev Ad.m (d:Ad):Aa:=⟨d.node,d.life,d.count⟩
abbrev Aa.z (m:Aa):Ad:=⟨m.node,m.life,0⟩
abbrev Ad.a (d:Ad):AU:=⟨d.node,d.life⟩
theorem AE.z {m:Aa}(h:AE m.d):FC m.z:=by simp only[AE,Aa.d,FC,Aa.z]at*;omega
def BL (a b:Ad):Int:=if a.node=b.node then(if a.life=b.life then a.count-b.count else a.life-b.life)else a.node-b.node
def CC (a b:Ad):Prop:=a.node<b.node∨a.node=b.node∧(a.life<b.life∨a.life=b.life∧a.count<b.count)
instance (a b:Ad):Decidable (CC a b):=by unfold CC;infer_instance
def BS (a b:Aa):Prop:=a.node<b.node∨a.node=b.node∧a.life<b.life
instance (a b:Aa):Decidable (BS a b):=by unfold BS;infer_instance
theorem Ad.eta {a b:Ad}(h1:a.node=b.node)(h2:a.life=b.life)(h3:a.count=b.count):a=b:=by cases a;cases b;simp_all
theorem DP {a b:Ad}:BL a b<0↔CC a b:=by
 unfold BL CC
 split
 ·split<;>constructor<;>omega
 ·constructor<;>omega
theorem OE {a b:Ad}:0≤BL a b↔¬CC a b:=by rw[←DP];omega
theorem OF {a b:Ad}:BL a b=0↔a=b:=by
 constructor
 ·intro h;unfold BL at h;split at h
  ·split at h
   ·exact Ad.eta Zo Zo Zo
   ·omega
  ·omega
 ·rintro rfl;simp[BL]
theorem Rq {a b:Aa}:0≤BL a.z b.z↔¬BS a b:=by rw[OE];simp only[CC,BS,Aa.z];omega
theorem E4 {a b c:Ad}(h1:CC a b)(h2:CC b c):CC a c:=by unfold CC at*;omega
theorem Lb {a:Ad}:¬CC a a:=by unfold CC;omega
theorem Io {a b:Ad}(h:¬CC a b)(h2:¬CC b a):a=b:=by unfold CC at*;exact Ad.eta Zo Zo Zo
theorem CF {a b c:Aa}(h1:BS a b)(h2:BS b c):BS a c:=by unfold BS at*;omega
theorem Lc {a:Aa}:¬BS a a:=by unfold BS;omega
def B2 (ms:List Aa)(a:AU):Int:=match ms.find? (fun m=>decide (m.d.a=a))with|some m=>m.count|none=>0
theorem Rr {ms:List Aa}{a:AU}{i:Nat}{m:Aa}(hx:ms[i]? =some m)(ha:m.d.a=a)(hno:EF (fun m=>decide (m.d.a=a)) ms i):B2 ms a=m.count:=by
 have:ms.find? (fun m=>decide (m.d.a=a))=some m:=by
  rw[List.find?_eq_some_iff_getElem]
  obtain⟨hi,rfl⟩:=List.getElem?_eq_some_iff.1 hx
  exact⟨decide_eq_true ha,i,hi,rfl,fun j hj=>by
   have h:=hno j _ hj (List.getElem?_eq_getElem Zo)
   have h':¬(ms[j].d.a=a):=of_decide_eq_false h
   simp[h']⟩
 rw[B2,this]
theorem Rs {ms:List Aa}{a:AU}{i:Nat}(hno:EF (fun m=>decide (m.d.a=a)) ms i)(hi:ms.length≤i):B2 ms a=0:=by
 have:ms.find? (fun m=>decide (m.d.a=a))=none:=by
  rw[List.find?_eq_none]
  intro x hx
  obtain⟨j,hj,rfl⟩:=List.getElem_of_mem hx
  have h:=hno j _ Zo (List.getElem?_eq_getElem hj)
  simp only at h
  simp[h]
 rw[B2,this]
def Uj (ms:List Aa)(i:Nat):Prop:=∀m,ms[i]? =some m→AE m.d∧(0<i→∀x,ms[i-1]? =some x→BS x m)
def PO (ms:List Aa)(cl:List Ad)(i:Nat):Prop:=∀d,cl[i]? =some d→AE d∧(0<i→∀x,cl[i-1]? =some x→CC x d)∧B2 ms d.a+1<d.count
def DF (ms:List Aa)(cl:List Ad):Prop:=ms.length≤64∧cl.length≤64∧(∀i,Uj ms i)∧∀i,PO ms cl i
open Classical in
noncomputable def B4 (ms:List Aa)(cl:List Ad):Bool:=decide (DF ms cl)
theorem C5 {ms:List Aa}{cl:List Ad}:B4 ms cl=true↔DF ms cl:=by simp[B4]
theorem Da {ms:List Aa}{cl:List Ad}(h:¬DF ms cl):B4 ms cl=false:=by simp[B4,h]
theorem DB {ms:List Aa}{cl:List Ad}(h:DF ms cl):B4 ms cl=true:=C5.2 h
def B0 (ms:List Aa)(cl:List Ad)(d:Ad):Prop:=(1≤d.count∧d.count≤B2 ms d.a)∨(1≤d.count∧d∈cl)
instance (ms :List Aa)(cl:List Ad)(d:Ad):Decidable (B0 ms cl d):=by unfold B0;infer_instance
section
variable {ms :List Aa}{cl:List Ad}{i:Nat}{m x:Aa}{d y:Ad}
theorem DF.may (h:DF ms cl)(hm:m∈ms):AE m.d:=by
 obtain⟨j,hj,rfl⟩:=List.getElem_of_mem hm
 exact(h.2.2.1 j _ (List.getElem?_eq_getElem hj)).1
theorem DF.mayC (h:DF ms cl)(hd:d∈cl):AE d:=by
 obtain⟨j,hj,rfl⟩:=List.getElem_of_mem hd
 exact(h.2.2.2 j _ (List.getElem?_eq_getElem hj)).1
theorem Ea {a:AU}(h:B2 ms a≠0):∃m∈ms,m.d.a=a∧m.count=B2 ms a:=by
 unfold B2 at*
 split at h
 ·rename_i m hm
  exact⟨m,List.mem_of_find?_eq_some hm,by simpa using List.find?_some hm,by simp⟩
 ·exact absurd rfl h
theorem DF.cov (h:DF ms cl)(hd:B0 ms cl d):AE d:=by
 rcases hd with⟨h1,h2⟩|⟨-,hd⟩
 ·obtain⟨m,hm,ha,e⟩:=Ea (ms:=ms) (a:=d.a) Zo
  have:=h.may hm
  simp only[AE,Aa.d,Ad.a,AU.mk.injEq]at*
  omega
 ·exact h.mayC hd
theorem covers_ite :(decide (1≤d.count)&&(decide (d.count≤B2 ms d.a)||cl.any (d==·)))=decide (B0 ms cl d):=by
 rw[Bool.eq_iff_iff,Bool.and_eq_true,Bool.or_eq_true,decide_eq_true_eq,decide_eq_true_eq,decide_eq_true_eq,List.any_eq_true]
 simp only[B0,beq_iff_eq]
 constructor
 ·rintro⟨h1,h2|⟨x,hx,rfl⟩⟩
  ·exact .inl ⟨h1,h2⟩
  ·exact .inr ⟨h1,hx⟩
 ·rintro(⟨h1,h2⟩|⟨h1,h2⟩)
  ·exact⟨h1,.inl h2⟩
  ·exact⟨h1,.inr ⟨d,h2,rfl⟩⟩
end
def Du (ms:List Aa)(cl:List Ad)(d:Ad):Prop:=(1≤d.count∧d.count≤B2 ms d.a)∨d∈cl
instance (ms :List Aa)(cl:List Ad)(d:Ad):Decidable (Du ms cl d):=by unfold Du;infer_instance
theorem Tu {cl:List Ad}{d:Ad}{i:Nat}(hno:EF (fun x=>decide (x=d)) cl i)(hi:cl.length≤i):¬d∈cl:=fun h=>by
 obtain⟨j,hj,rfl⟩:=List.getElem_of_mem h
 have h:=hno j _ Zo (List.getElem?_eq_getElem hj)
 simp at h
theorem DF.covR {ms:List Aa}{cl:List Ad}{d:Ad}(h:DF ms cl):Du ms cl d↔B0 ms cl d:=by
 unfold Du B0
 constructor
 ·rintro(h1|h1)
  ·exact .inl h1
  ·exact .inr ⟨(h.mayC h1).2.2.1,h1⟩
 ·rintro(h1|h1)
  ·exact .inl h1
  ·exact .inr h1.2
attribute [local irreducible] X
theorem U4 (n:Int)(w:World):
  Calls prog 195 #[.int .i64 n] w (AS (fun v w'=>v= .bool (decide (0≤n)&&decide (n<8))∧Aq w w')):=by
 refine Ae (n:=9) func195 rfl rfl rfl ?_;refine jG ?_;refine jV (AJ rfl rfl rfl) ?_;refine jG ?_;refine jJ func195 ?_;exact⟨_,rfl,rfl,(Ah.refl _ w)⟩
theorem U5 (n:Int)(w:World):
  Calls prog 196 #[.int .i64 n] w (AS (fun v w'=>v= .bool (decide (1≤n)&&decide (n≤1099511627776))∧Aq w w')):=by
 refine Ae (n:=9) func196 rfl rfl rfl ?_;refine jG ?_;refine jV (AJ rfl rfl rfl) ?_;refine jG ?_;refine jJ func196 ?_;exact⟨_,rfl,rfl,(Ah.refl _ w)⟩
theorem Tv (n:Int)(w:World):
  Calls prog 197 #[.int .i64 n] w (AS (fun v w'=>v= .bool (decide (1≤n)&&decide (n≤1099511627776))∧Aq w w')):=by
 refine Ae (n:=9) func197 rfl rfl rfl ?_;refine jG ?_;refine jV (AJ rfl rfl rfl) ?_;refine jG ?_;refine jJ func197 ?_;exact⟨_,rfl,rfl,(Ah.refl _ w)⟩
theorem Kp (d:Ad)(w:World):
  Calls prog 137 #[.agg #[.int .i64 ((d).node),.int .i64 ((d).life),.int .i64 ((d).count)]] w (AS (fun v w'=>v= .bool (decide (AE d))∧Aq w w')):=by
 refine Ae (n:=16) func137 rfl rfl rfl ?_;refine jG ?_;refine jR<|jB ?_;intro a4 a7 a1 a0 a5;have:w.heap.size≤a4:=a1;clear a1;have K0:=(a5:Aq w _);refine jG ?_;refine jR<|jC (U4 ((d).node) _) ?_;rintro _ a8 ⟨rfl,a2⟩;replace a0:=a0.ext a2;refine jG ?_;refine RL.gcall (vals:=[.int .i64 ((d).life)]) (Bg rfl rfl rfl rfl) en196.h (fun hg=>(BM (Bf hg) EJ)) (fun hg=>(U5 ((d).life) _)) ?_;intro a9 a3;refine jV (AJ rfl rfl rfl) ?_;replace a0:=a0.ext a3;refine jG ?_;refine RL.gcall (vals:=[.int .i64 ((d).count)]) (Bg rfl rfl rfl rfl) en197.h (fun hg=>(BM (Bf hg) EJ)) (fun hg=>(Tv ((d).count) _)) ?_;intro aa a6;refine jV (AJ rfl rfl rfl) ?_;refine jG ?_;refine jJ func137 ?_;replace K0:=((K0.ext a2).ext a3).ext a6;exact⟨_,rfl,congrArg Value.bool (by rw[Bool.eq_iff_iff];simp only[AE,Bool.and_eq_true,decide_eq_true_eq,and_assoc]),K0⟩
theorem OG (d:Ad)(w:World):
  Calls prog 126 #[.agg #[.int .i64 ((d).node),.int .i64 ((d).life),.int .i64 ((d).count)]] w (AS (fun v w'=>v= .bool (decide (AE d))∧Aq w w')):=by
 refine Ae (n:=31) func126 rfl rfl rfl ?_;refine jG ?_;refine jR<|jB ?_;intro a1 a3 a0 a4 a2;have:w.heap.size≤a1:=a0;clear a0;have K0:=(a2:Aq w _);refine jG ?_;refine jV (AJ rfl rfl rfl) ?_;refine jG ?_;refine jV (AJ rfl rfl rfl) ?_;refine jG ?_;refine jV (AJ rfl rfl rfl) ?_;refine jG ?_;refine jV (AJ rfl rfl rfl) ?_;refine jG ?_;refine jV (AJ rfl rfl rfl) ?_;refine jG ?_;refine jJ func126 ?_;exact⟨_,rfl,congrArg Value.bool (by rw[Bool.eq_iff_iff];simp only[AE,Bool.and_eq_true,decide_eq_true_eq,and_assoc]),K0⟩
theorem HF (m:Aa)(w:World):
  Calls prog 138 #[.agg #[.int .i64 ((m).node),.int .i64 ((m).life),.int .i64 ((m).count)]] w (AS (fun v w'=>v= .agg #[.int .i64 ((m.d).node),.int .i64 ((m.d).life),.int .i64 ((m.d).count)]∧Aq w w')):=by
 refine Ae (n:=4) func138 rfl rfl rfl ?_;refine jG ?_;refine jR<|jB ?_;intro a5 a8 a3 a0 a6;have:w.heap.size≤a5:=a3;clear a3;have K0:=(a6:Aq w _);refine jR<|jA ?_;intro a9 aa a1 a2 a4;have ab:=Ai a0.lt a1;have:=Nat.le_trans K0.size a1;clear a1;replace a0:=a0.ext a4;refine jG ?_;refine jR<|jS a2 ?_;intro ac a2 a7;refine jG ?_;refine Aj.retC (cs:=#[.int .i64 ((m).node),.int .i64 ((m).life),.int .i64 ((m).count)]) func138 rfl ty73 rfl rfl a2.cl ?_;replace K0:=(K0.ext a4).n1 a7;exact⟨_,rfl,rfl,K0⟩
theorem GD (d:Ad)(w:World):
  Calls prog 141 #[.agg #[.int .i64 ((d).node),.int .i64 ((d).life),.int .i64 ((d).count)]] w (AS (fun v w'=>v= .agg #[.int .i64 ((d.a).node),.int .i64 ((d.a).life)]∧Aq w w')):=by
 refine Ae (n:=8) func141 rfl rfl rfl ?_;refine jG ?_;refine jR<|jB ?_;intro a5 a8 a3 a0 a6;have:w.heap.size≤a5:=a3;clear a3;have K0:=(a6:Aq w _);refine jR<|jA ?_;intro a9 aa a1 a2 a4;have ab:=Ai a0.lt a1;have:=Nat.le_trans K0.size a1;clear a1;replace a0:=a0.ext a4;refine jG ?_;refine jV (AC (cells:=#[.int .i64 ((d).node),.int .i64 ((d).life)]) Zk) ?_;refine jR<|jS a2 ?_;intro ac a2 a7;refine jG ?_;refine Aj.retC (cs:=#[.int .i64 ((d).node),.int .i64 ((d).life)]) func141 rfl ty170 rfl rfl a2.cl ?_;replace K0:=(K0.ext a4).n1 a7;exact⟨_,rfl,rfl,K0⟩
theorem Rt (m:Aa)(w:World):
  Calls prog 125 #[.agg #[.int .i64 ((m).node),.int .i64 ((m).life),.int .i64 ((m).count)]] w (AS (fun v w'=>v= .bool (decide (AE m.d))∧Aq w w')):=by
 refine Ae (n:=5) func125 rfl rfl rfl ?_;refine jG ?_;refine jR<|jB ?_;intro a1 a4 a0 a5 a2;have:w.heap.size≤a1:=a0;clear a0;have K0:=(a2:Aq w _);refine jG ?_;refine jR<|jC (OG (Aa.d m) _) ?_;rintro _ a6 ⟨rfl,a3⟩;refine jG ?_;refine jJ func125 ?_;replace K0:=K0.ext a3;exact⟨_,rfl,rfl,K0⟩
theorem NC (a b:Ad)(w:World)(ha:FC a)(hb:FC b):
  Calls prog 139 #[.agg #[.int .i64 ((a).node),.int .i64 ((a).life),.int .i64 ((a).count)],.agg #[.int .i64 ((b).node),.int .i64 ((b).life),.int .i64 ((b).count)]] w (AS (fun v w'=>v= .int .i64 (BL a b)∧Aq w w')):=by
 obtain⟨ha1,ha2,ha3⟩:=ha;obtain⟨hb1,hb2,hb3⟩:=hb;refine Ae (n:=32) func139 rfl rfl rfl ?_;refine jG ?_;refine jR<|jB ?_;intro a4 a6 a2 a0 a5;have:w.heap.size≤a4:=a2;clear a2;have K0:=(a5:Aq w _);refine jR<|jB ?_;intro a7 a8 a1 a9 a3;have aa:=Ai a0.lt a1;have:=Nat.le_trans K0.size a1;clear a1;replace a0:=a0.ext a3;refine jG ?_;replace K0:=K0.ext a3;refine jF ?_ ?_
 ·intro hc5
  refine jG ?_;refine jV (BE rfl rfl Zo Zo) ?_;refine jG ?_;refine jJ func139 ?_;exact⟨_,rfl,by rw[BL,if_neg hc5],K0⟩
 ·intro hc5
  refine jG ?_;refine jF ?_ ?_
  ·intro hc16
   refine jG ?_;refine jV (BE rfl rfl Zo Zo) ?_;refine jG ?_;refine jJ func139 ?_;exact⟨_,rfl,by rw[BL,if_pos hc5,if_neg hc16],K0⟩
  ·intro hc16
   refine jG ?_;refine jV (BE rfl rfl Zo Zo) ?_;refine jG ?_;refine jJ func139 ?_;exact⟨_,rfl,by rw[BL,if_pos hc5,if_pos hc16],K0⟩
theorem Ld (a b:Ad)(w:World):
  Calls prog 127 #[.agg #[.int .i64 ((a).node),.int .i64 ((a).life),.int .i64 ((a).count)],.agg #[.int .i64 ((b).node),.int .i64 ((b).life),.int .i64 ((b).count)]] w (AS (fun v w'=>v= .bool (decide (CC a b))∧Aq w w')):=by
 refine Ae (n:=30) func127 rfl rfl rfl ?_;refine jG ?_;refine jR<|jB ?_;intro a4 a6 a2 a0 a5;have:w.heap.size≤a4:=a2;clear a2;have K0:=(a5:Aq w _);refine jR<|jB ?_;intro a7 a8 a1 a9 a3;have aa:=Ai a0.lt a1;have:=Nat.le_trans K0.size a1;clear a1;replace a0:=a0.ext a3;refine jG ?_;replace K0:=K0.ext a3;refine jF ?_ ?_
 ·intro hc9
  refine jG ?_;refine jJ func127 ?_;exact⟨_,rfl,congrArg Value.bool (by rw[decide_eq_decide];unfold CC;omega),K0⟩
 ·intro hc9
  refine jG ?_;refine jF ?_ ?_
  ·intro hc19
   refine jG ?_;refine jJ func127 ?_;exact⟨_,rfl,congrArg Value.bool (by rw[decide_eq_decide];unfold CC;omega),K0⟩
  ·intro hc19
   refine jG ?_;refine jJ func127 ?_;exact⟨_,rfl,congrArg Value.bool (by rw[decide_eq_decide];unfold CC;omega),K0⟩
theorem OH (am:Option Addr)(ms:List Aa)(cm:Nat)(ac:Option Addr)(cl:List Ad)(cc:Nat)(a:AU)(w:World)(hs:As w am ms)(ht:As w ac cl)(hl:ms.length≤4294967295)(hl2:cl.length≤4294967295):
  Calls prog 140 #[.agg #[.slice am ms.length cm,.slice ac cl.length cc],.agg #[.int .i64 ((a).node),.int .i64 ((a).life)]] w (AS (fun v w'=>v= .int .i64 (B2 ms a)∧Aq w w')):=by
 refine Ae (n:=22) func140 rfl rfl rfl ?_;refine jG ?_;refine jR<|jB ?_;intro ab ai ad a1 ah;have:w.heap.size≤ab:=ad;clear ad;have K0:=(ah:Aq w _);refine jR<|jB ?_;intro ae aj a8 a0 af;have ak:=Ai a1.lt a8;have:=Nat.le_trans K0.size a8;clear a8;replace a1:=a1.ext af;refine jG ?_;replace K0:=K0.ext af;refine Aj.loop (ι:=Nat) (fun i ρ' w'=>Holds ρ' [(3,jp ae),(8,.slice am ms.length cm),(9,.int .i64 ((ms.length:Nat):Int)),(10,.int .i64 ((i:Nat):Int))]∧Aq w w'∧(AA w' ab [.slice am ms.length cm,.slice ac cl.length cc] 31)∧(AA w' ae [.int .i64 ((a).node),.int .i64 ((a).life)] 170)∧(i≤ms.length)∧(EF (fun m=>decide (m.d.a=a)) ms i)) (fun i=>ms.length-i) 0 ?_ ?_
 ·refine⟨⟨rfl,rfl,rfl,rfl,trivial⟩,K0,a1,a0,?_,?_⟩
  ·omega
  ·exact EF.zero _ _
 clear a1 a0;clear K0;rintro i al an ⟨ag,K0,a1,a0,hi,hno⟩ ih1;obtain⟨ρ₀,rfl⟩:=ag.ex;clear ag;refine jG ?_;refine jF ?_ ?_
 ·intro hc11
  obtain⟨ao,ap,m,hx,aq,a4⟩:=hs.eo i;have hc_18_lt:=a4.lt;replace a4:=a4.ext K0;refine jG ?_;refine jR<|jA ?_;intro ar au a3 a2 a9;have av:=Ai a1.lt a3;have aw:=Ai a0.lt a3;have ax:=Ai a4.lt a3;have:=Nat.le_trans K0.size a3;clear a3;refine jR<|jS a2 ?_;intro ay a2 aa;refine jG ?_;refine Aj.drawS [] [1000,1003,2001,2002,4] ?_;intro az a5;replace a0:=((a0.ext a9).kp aa).ext a5;replace a2:=a2.ext a5;refine jM (jb a0 (jb a2 Jn)) ?_;refine jG ?_;refine jU rfl<|jC (HF m _) ?_;rintro _ aA ⟨rfl,a6⟩;replace a0:=a0.ext a6;replace a2:=a2.ext a6;refine jG ?_;refine jU rfl<|jC (GD (Aa.d m) _) ?_;rintro _ aB ⟨rfl,a7⟩;replace a0:=a0.ext a7;replace a2:=a2.ext a7;refine jG ?_;refine jP ?_ (hx:=by exact fun _=>(EC Zk rfl rfl (Ko (Ad.a (Aa.d m)) a)));refine jG ?_;replace a1:=((((a1.ext a9).kp aa).ext a5).ext a6).ext a7;replace K0:=((((K0.ext a9).n1 aa).ext a5).ext a6).ext a7;refine jF ?_ ?_
  ·intro hc18
   refine jG ?_;refine jJ func140 ?_;exact⟨_,rfl,by rw[Rr hx hc18 hno],K0⟩
  ·intro hc18
   refine jG ?_;refine jV (At (c:=((i+1:Nat):Int)) (An rfl rfl Zo Zo) rfl) ?_;refine jG ?_;refine ih1 (i+1) _ _ ?_ Zo;refine⟨⟨rfl,rfl,rfl,rfl,trivial⟩,K0,a1,a0,?_,?_⟩
   ·omega
   ·exact hno.step hx (decide_eq_false hc18)
 ·intro hc11
  refine jG ?_;refine jJ func140 ?_;exact⟨_,rfl,by rw[Rs hno Zo],K0⟩
theorem ND (am:Option Addr)(ms:List Aa)(cm:Nat)(n l:Int)(w:World)(hs:As w am ms)(hl:ms.length≤4294967295):
  Calls prog 76 #[.slice am ms.length cm,.int .i64 n,.int .i64 l] w (AS (fun v w'=>v= .int .i64 (B2 ms ⟨n,l⟩)∧Aq w w')):=by
 refine Ae (n:=28) func76 rfl rfl rfl ?_;refine jG ?_;refine Aj.loop (ι:=Nat) (fun i ρ' w'=>Holds ρ' [(1,.int .i64 n),(2,.int .i64 l),(9,.slice am ms.length cm),(10,.int .i64 ((ms.length:Nat):Int)),(11,.int .i64 ((i:Nat):Int))]∧Aq w w'∧(i≤ms.length)∧(EF (fun m=>decide (m.d.a=⟨n,l⟩)) ms i)) (fun i=>ms.length-i) 0 ?_ ?_
 ·refine⟨⟨rfl,rfl,rfl,rfl,rfl,trivial⟩,(Ah.refl _ w),?_,?_⟩
  ·omega
  ·exact EF.zero _ _
 rintro i a6 a7 ⟨a2,K0,hi,hno⟩ ih1;obtain⟨ρ₀,rfl⟩:=a2.ex;clear a2;refine jG ?_;refine jF ?_ ?_
 ·intro hc12
  obtain⟨a8,a9,m,hx,aa,a0⟩:=hs.eo i;have hc_7_lt:=a0.lt;replace a0:=a0.ext K0;refine jG ?_;refine jR<|jA ?_;intro ab ac a1 a3 a4;have ad:=Ai a0.lt a1;have:=Nat.le_trans K0.size a1;clear a1;refine jR<|jS a3 ?_;intro ae a3 a5;refine jG ?_;refine jV (AJ rfl rfl rfl) ?_;refine jG ?_;replace K0:=(K0.ext a4).n1 a5;refine jF ?_ ?_
  ·intro hc24
   refine jG ?_;refine jJ func76 ?_;exact⟨_,rfl,by rw[Rr hx (by simp only[Aa.d,Ad.a,AU.mk.injEq];exact hc24) hno],K0⟩
  ·intro hc24
   refine jG ?_;refine jV (At (c:=((i+1:Nat):Int)) (An rfl rfl Zo Zo) rfl) ?_;refine jG ?_;refine ih1 (i+1) _ _ ?_ Zo;refine⟨⟨rfl,rfl,rfl,rfl,rfl,trivial⟩,K0,?_,?_⟩
   ·omega
   ·exact hno.step hx (decide_eq_false (by simp only[Aa.d,Ad.a,AU.mk.injEq];omega))
 ·intro hc12
  refine jG ?_;refine jJ func76 ?_;exact⟨_,rfl,by rw[Rs hno Zo],K0⟩
theorem Tw (a:Option Addr)(xs:List Ad)(c:Nat)(x:Ad)(w:World)(hs:As w a xs)(hl:xs.length≤4294967295):
  Calls prog 240 #[.slice a xs.length c,.agg #[.int .i64 ((x).node),.int .i64 ((x).life),.int .i64 ((x).count)]] w (AS (fun v w'=>v= .int .i64 (HT (x==·) xs)∧Aq w w')):=by
 refine Ae (n:=19) func240 rfl rfl rfl ?_;refine jG ?_;refine jR<|jB ?_;intro a1 a7 a4 a0 a6;have:w.heap.size≤a1:=a4;clear a4;have K0:=(a6:Aq w _);refine jG ?_;refine Aj.loop (ι:=Nat) (fun i ρ' w'=>Holds ρ' [(0,.slice a xs.length c),(3,jp a1),(7,.int .i64 ((xs.length:Nat):Int)),(8,.int .i64 ((i:Nat):Int))]∧Aq w w'∧(AA w' a1 [.int .i64 ((x).node),.int .i64 ((x).life),.int .i64 ((x).count)] 73)∧(i≤xs.length)∧(EF (x==·) xs i)) (fun i=>xs.length-i) 0 ?_ ?_
 ·refine⟨⟨rfl,rfl,rfl,rfl,trivial⟩,K0,a0,?_,?_⟩
  ·omega
  ·exact EF.zero _ _
 clear a0;clear K0;rintro i a8 a9 ⟨a5,K0,a0,hi,hno⟩ ih1;obtain⟨ρ₀,rfl⟩:=a5.ex;clear a5;refine jG ?_;refine jF ?_ ?_
 ·intro hc9
  refine jG ?_;obtain⟨aa,ab,e,hx,ac,a2⟩:=hs.eo i;have hc_14_lt:=a2.lt;refine Aj.drawR ?_;intro ad a3;replace a2:=(a2.ext K0).ext a3;replace a0:=a0.ext a3;refine jG ?_;refine jD (EC Zk rfl rfl (C9 x e)) ?_;refine jG ?_;replace K0:=K0.ext a3;refine jF ?_ ?_
  ·intro hc16
   refine jG ?_;refine jJ func240 ?_;exact⟨_,rfl,by rw[LL hx (by simpa using hc16) hno],K0⟩
  ·intro hc16
   refine jG ?_;refine jV (At (c:=((i+1:Nat):Int)) (An rfl rfl Zo Zo) rfl) ?_;refine jG ?_;refine ih1 (i+1) _ _ ?_ Zo;refine⟨⟨rfl,rfl,rfl,rfl,trivial⟩,K0,a0,?_,?_⟩
   ·omega
   ·exact hno.step hx (by simpa using hc16)
 ·intro hc9
  refine jG ?_;refine jJ func240 ?_;exact⟨_,rfl,by rw[LM hno Zo],K0⟩
theorem NE (a:Option Addr)(xs:List Ad)(c:Nat)(x:Ad)(w:World)(hs:As w a xs)(hl:xs.length≤4294967295):
  Calls prog 202 #[.slice a xs.length c,.agg #[.int .i64 ((x).node),.int .i64 ((x).life),.int .i64 ((x).count)]] w (AS (fun v w'=>v= .bool (xs.any (x==·))∧Aq w w')):=by
 refine Ae (n:=9) func202 rfl rfl rfl ?_;refine jG ?_;refine jR<|jB ?_;intro a1 a4 a0 a5 a2;have:w.heap.size≤a1:=a0;clear a0;have K0:=(a2:Aq w _);refine jG ?_;refine jR<|jC (Tw _ _ _ x _ (hs.ext K0) Zo) ?_;rintro _ a6 ⟨rfl,a3⟩;refine jG ?_;refine jJ func202 ?_;replace K0:=K0.ext a3;exact⟨_,rfl,by rw[LN],K0⟩
theorem OI (a:Option Addr)(xs:List Ad)(c:Nat)(d:Option Addr)(ys:List Ad)(e:Nat)(w:World)(hs:As w a xs)(ht:As w d ys)(hl:xs.length≤4294967295):
  Calls prog 84 #[.slice a xs.length c,.slice d ys.length e] w (AS (fun v w'=>v= .bool (decide (xs=ys))∧Aq w w')):=by
 refine Ae (n:=26) func84 rfl rfl rfl ?_;refine jG ?_;refine jF ?_ ?_
 ·intro hc10
  refine jG ?_;refine jJ func84 ?_;exact⟨_,rfl,by rw[decide_eq_false (fun h=>hc10 (by rw[h]))],(Ah.refl _ w)⟩
 ·intro hc10
  have hlen:xs.length=ys.length:=by omega
  refine jG ?_;refine Aj.loop (ι:=Nat) (fun i ρ' w'=>Holds ρ' [(0,.slice a xs.length c),(1,.slice d ys.length e),(12,.int .i64 ((xs.length:Nat):Int)),(13,.int .i64 ((i:Nat):Int))]∧Aq w w'∧(i≤xs.length)∧(EU xs ys i)) (fun i=>xs.length-i) 0 ?_ ?_
  ·refine⟨⟨rfl,rfl,rfl,rfl,trivial⟩,(Ah.refl _ w),?_,?_⟩
   ·omega
   ·exact EU.zero _ _
  rintro i a4 a5 ⟨a3,K0,hi,hno⟩ ih1;obtain⟨ρ₀,rfl⟩:=a3.ex;clear a3;refine jG ?_;refine jF ?_ ?_
  ·intro hc14
   refine jG ?_;obtain⟨a6,a7,x,hx,a8,a0⟩:=hs.eo i;have hc_9_lt:=a0.lt;obtain⟨a9,aa,y,hy,ab,a1⟩:=ht.eo i;have hc_15_lt:=a1.lt;refine Aj.drawR ?_;intro ac a2;replace a0:=(a0.ext K0).ext a2;replace a1:=(a1.ext K0).ext a2;refine jG ?_;refine jD (JQ Zk rfl rfl (C9 x y)) ?_;refine jG ?_;replace K0:=K0.ext a2;refine jF ?_ ?_
   ·intro hc24
    refine jG ?_;refine jJ func84 ?_;exact⟨_,rfl,by rw[decide_eq_false (IK hx hy hc24)],K0⟩
   ·intro hc24
    refine jG ?_;refine jV (At (c:=((i+1:Nat):Int)) (An rfl rfl Zo Zo) rfl) ?_;refine jG ?_;refine ih1 (i+1) _ _ ?_ Zo;refine⟨⟨rfl,rfl,rfl,rfl,trivial⟩,K0,?_,?_⟩
    ·omega
    ·exact hno.step hx hy hc24
  ·intro hc14
   refine jG ?_;refine jJ func84 ?_;exact⟨_,rfl,by rw[decide_eq_true (hno.all hlen Zo)],K0⟩
theorem Le (a:Option Addr)(xs:List Ad)(c:Nat)(w:World)(hs:As w a xs)(hl:xs.length≤4294967295):
  Calls prog 86 #[.slice a xs.length c] w (AS (fun v w'=>∃a' c',v= .slice a' xs.length c'∧Af w' 73 a' c' xs∧(∀b,own a' b→w.heap.size≤b)∧Aq w w')):=by
 refine Ae (n:=8) func86 rfl rfl rfl ?_;refine jG ?_;refine jV (Ic underlying29 rfl rfl) ?_;refine jG ?_;refine Aj.cond rfl (fun hc4=> ?_) (fun hc4=> ?_)
 ·skip
  refine jG ?_;refine jJ func86 ?_;have hx:=hs.nil_of hc4;subst hx;exact⟨_,rfl,none,0,rfl,Af.nil _ _,fun b h=>absurd h (Ac b),(Ah.refl _ w)⟩
 ·skip
  refine jG ?_;refine jR<|Av.buildSlice ([]:List Ad) underlying29 ty73 rfl rfl Ze ?_;intro ab ac a0 a4 a5;have a1:=A1 (Nat.le_refl _) (A9 a0);clear a0;have K0:=(a5:Aq w _);refine jG ?_;refine jR<|Av.append (xs:=([]:List Ad)) (ys:=xs) underlying29 ty73 rfl rfl rfl a4 (hs.ext K0) Zr Zd ?_;intro a2 a6 ad a7 a8 a3 a9;have aa:∀q_,own a2 q_→w.heap.size≤q_:=a3.ge a1 K0.size;clear a3;clear a9;refine jG ?_;refine jJ func86 ?_;replace K0:=K0.new a8 a1;exact⟨_,rfl,a2,a6,by rw[List.nil_append],by simpa using a7,aa,K0⟩
theorem Ip (am:Option Addr)(ms:List Aa)(cm:Nat)(ac:Option Addr)(cl:List Ad)(cc:Nat)(d:Ad)(w:World)(hs:As w am ms)(ht:As w ac cl)(hl:ms.length≤4294967295)(hl2:cl.length≤4294967295):
  Calls prog 144 #[.agg #[.slice am ms.length cm,.slice ac cl.length cc],.agg #[.int .i64 ((d).node),.int .i64 ((d).life),.int .i64 ((d).count)]] w (AS (fun v w'=>v= .bool (decide (B0 ms cl d))∧Aq w w')):=by
 refine Ae (n:=23) func144 rfl rfl rfl ?_;refine jG ?_;refine jR<|jB ?_;intro a9 ab a7 a0 aa;have:w.heap.size≤a9:=a7;clear a7;have K0:=(aa:Aq w _);refine jR<|jB ?_;intro ad ae a2 a1 a8;have af:=Ai a0.lt a2;have:=Nat.le_trans K0.size a2;clear a2;refine jG ?_;refine Aj.drawS [] [0,1001,2,3,4,1005,1006,1007,2008,2009,10,11,12,1013,1014,2015,16,17,18] ?_;intro ag a3;replace a0:=(a0.ext a8).ext a3;replace a1:=a1.ext a3;refine jM (jb a0 (jb a1 Jn)) ?_;refine jG ?_;refine jZ (fun hg=>(GD d _)) ?_;intro ah a4;replace a0:=a0.ext a4;replace a1:=a1.ext a4;refine jG ?_;replace K0:=((K0.ext a8).ext a3).ext a4;refine jZ (fun hg=>(OH am ms cm ac cl cc (Ad.a d) _ (hs.ext K0) (ht.ext K0) Zo Zo)) ?_;intro ai a5;replace a0:=a0.ext a5;replace a1:=a1.ext a5;refine jG ?_;replace K0:=K0.ext a5;refine jZ (fun hg=>(NE _ _ _ d _ (ht.ext K0) Zo)) ?_;intro aj a6;replace a0:=a0.ext a6;replace a1:=a1.ext a6;refine jG ?_;refine jQ ?_ (hx:=by exact fun _ hg=>(IE hg rfl rfl rfl));refine jP ?_ (hx:=by exact fun _=>(AJ rfl rfl rfl));refine jG ?_;refine jJ func144 ?_;replace K0:=K0.ext a6;exact⟨_,rfl,by rw[←covers_ite],K0⟩
theorem G3 (am:Option Addr)(ms:List Aa)(cm:Nat)(ac:Option Addr)(cl:List Ad)(cc:Nat)(d:Ad)(w:World)(hs:As w am ms)(ht:As w ac cl)(hl:ms.length≤4294967295)(hl2:cl.length≤4294967295):
  Calls prog 29 #[.agg #[.slice am ms.length cm,.slice ac cl.length cc],.agg #[.int .i64 ((d).node),.int .i64 ((d).life),.int .i64 ((d).count)]] w (AS (fun v w'=>v= .bool (decide (Du ms cl d))∧Aq w w')):=by
 refine Ae (n:=33) func29 rfl rfl rfl ?_;refine jG ?_;refine jR<|jB ?_;intro a9 ah aa a0 ag;have:w.heap.size≤a9:=aa;clear aa;have K0:=(ag:Aq w _);refine jR<|jB ?_;intro ab ai a4 a1 ad;have aj:=Ai a0.lt a4;have:=Nat.le_trans K0.size a4;clear a4;refine jG ?_;refine Aj.drawS [] [0,1001,2,3,4,1005,6,1007,8,1009,10,1011,2012,13,14] ?_;intro ak a5;replace a0:=(a0.ext ad).ext a5;replace a1:=a1.ext a5;refine jM (jb a0 (jb a1 Jn)) ?_;refine jG ?_;replace K0:=(K0.ext ad).ext a5;refine jZ (fun hg=>(ND _ ms _ ((d).node) ((d).life) _ (hs.ext K0) Zo)) ?_;intro al a6;replace a0:=a0.ext a6;replace a1:=a1.ext a6;refine jG ?_;refine jP ?_ (hx:=by exact fun _=>(AJ rfl rfl rfl));refine jG ?_;replace K0:=K0.ext a6;refine jF ?_ ?_
 ·intro hc21
  refine jG ?_;refine jJ func29 ?_;exact⟨_,rfl,by rw[decide_eq_true (.inl hc21)],K0⟩
 ·intro hc21
  refine jG ?_;refine Aj.loop (ι:=Nat) (fun i ρ' w'=>Holds ρ' [(3,jp ab),(23,.slice ac cl.length cc),(24,.int .i64 ((cl.length:Nat):Int)),(25,.int .i64 ((i:Nat):Int))]∧Aq w w'∧(AA w' a9 [.slice am ms.length cm,.slice ac cl.length cc] 31)∧(AA w' ab [.int .i64 ((d).node),.int .i64 ((d).life),.int .i64 ((d).count)] 73)∧(i≤cl.length)∧(EF (fun x=>decide (x=d)) cl i)) (fun i=>cl.length-i) 0 ?_ ?_
  ·refine⟨⟨rfl,rfl,rfl,rfl,trivial⟩,K0,a0,a1,?_,?_⟩
   ·omega
   ·exact EF.zero _ _
  clear a0 a1;clear K0;rintro i an ao ⟨ae,K0,a0,a1,hi,hno⟩ ih1;obtain⟨ρ₀,rfl⟩:=ae.ex;clear ae;refine jG ?_;refine jF ?_ ?_
  ·intro hc26
   obtain⟨ap,aq,x,hx,ar,a3⟩:=ht.eo i;have hc_22_lt:=a3.lt;replace a3:=a3.ext K0;refine jG ?_;refine jR<|jA ?_;intro au av a2 af a7;have aw:=Ai a0.lt a2;have ax:=Ai a1.lt a2;have ay:=Ai a3.lt a2;have:=Nat.le_trans K0.size a2;clear a2;refine jR<|jS af ?_;intro az af a8;replace a1:=(a1.ext a7).kp a8;refine jG ?_;refine jV (EC Zk rfl rfl (C9 x d)) ?_;refine jG ?_;replace a0:=(a0.ext a7).kp a8;replace K0:=(K0.ext a7).n1 a8;refine jF ?_ ?_
   ·intro hc31
    refine jG ?_;refine jJ func29 ?_;exact⟨_,rfl,by rw[decide_eq_true (.inr (by subst hc31;exact Bc hx))],K0⟩
   ·intro hc31
    refine jG ?_;refine jV (At (c:=((i+1:Nat):Int)) (An rfl rfl Zo Zo) rfl) ?_;refine jG ?_;refine ih1 (i+1) _ _ ?_ Zo;refine⟨⟨rfl,rfl,rfl,rfl,trivial⟩,K0,a0,a1,?_,?_⟩
    ·omega
    ·exact hno.step hx (decide_eq_false hc31)
  ·intro hc26
   refine jG ?_;refine jJ func29 ?_;exact⟨_,rfl,by rw[decide_eq_false (fun h=>h.elim (fun h=>by have h2:d.count≤B2 ms ⟨d.node,d.life⟩:=h.2;omega) (fun h=>Tu hno Zo h))],K0⟩
end Go.Proofs.YtjkaicjmfgekjaaGreatDoor
namespace Go.Proofs.YtjkaicjmfgekjaaGreatDoor
open Go.Proofs.Tryz
attribute [local irreducible] RD RS Av RL RA RT CJ Aj
theorem Fo {α : Type} {r : α → α → Prop} (irr : ∀ a, ¬ r a a) (tr : ∀ a b c, r a b → r b c → r a c) :
    ∀ {l l' : List α}, l.Pairwise r → l'.Pairwise r → (∀ x, x ∈ l ↔ x ∈ l') → l = l'
  | [], [], _, _, _ => rfl
  | [], b :: l', _, _, h => absurd ((h b).2 Zs) Zs
  | a :: l, [], _, _, h => absurd ((h a).1 Zs) Zs
  | a :: l, b :: l', h1, h2, h => by
    rw [List.pairwise_cons] at h1 h2
    have hab : a = b := by
      rcases List.mem_cons.1 ((h a).1 Zs) with e | ha
      · exact e
      · rcases List.mem_cons.1 ((h b).2 Zs) with e | hb
        · exact e.symm
        · exact absurd (tr _ _ _ (h1.1 b hb) (h2.1 a ha)) (irr a)
    subst hab
    congr 1
    refine Fo irr tr h1.2 h2.2 fun x => ⟨fun hx => ?_, fun hx => ?_⟩
    · rcases List.mem_cons.1 ((h x).1 (List.mem_cons_of_mem _ hx)) with e | h3
      · subst e; exact absurd (h1.1 x hx) (irr x)
      · exact h3
    · rcases List.mem_cons.1 ((h x).2 (List.mem_cons_of_mem _ hx)) with e | h3
      · subst e; exact absurd (h2.1 x hx) (irr x)
      · exact h3
theorem PP {l l':List Aa}(h1:l.Pairwise BS)(h2:l'.Pairwise BS)(h:∀x,x∈l↔x∈l'):l=l':=
 Fo (fun _=>Lc) (fun _ _ _=>CF) h1 h2 h
theorem PQ {l l':List Ad}(h1:l.Pairwise CC)(h2:l'.Pairwise CC)(h:∀x,x∈l↔x∈l'):l=l':=
 Fo (fun _=>Lb) (fun _ _ _=>E4) h1 h2 h
theorem I6 {a b:Aa}(h:BS a b):a.d.a≠b.d.a:=by
 simp only[Aa.d,Ad.a,ne_eq,AU.mk.injEq];unfold BS at h;omega
theorem Lf {a b:Aa}(h:a.d.a≠b.d.a):BS a b∨BS b a:=by
 simp only[Aa.d,Ad.a,ne_eq,AU.mk.injEq]at h;unfold BS;omega
theorem Kq {a b c:Aa}(h:a.d.a=b.d.a):BS a c↔BS b c:=by
 simp only[Aa.d,Ad.a,AU.mk.injEq]at h;unfold BS;omega
theorem I7 {a b c:Aa}(h:a.d.a=b.d.a):BS c a↔BS c b:=by
 simp only[Aa.d,Ad.a,AU.mk.injEq]at h;unfold BS;omega
theorem Aa.eta {a b:Aa}(h:a.d.a=b.d.a)(h2:a.count=b.count):a=b:=by
 cases a;cases b;simp only[Aa.d,Ad.a,AU.mk.injEq]at h;simp_all
theorem Tx (a:AU):B2 [] a=0:=rfl
theorem Ep (m:Aa)(l:List Aa)(a:AU):B2 (m::l) a=if m.d.a=a then m.count else B2 l a:=by
 unfold B2
 rw[List.find?_cons]
 by_cases h:m.d.a=a
 ·simp[h]
 ·simp[h]
theorem Er {l : List Aa} (h : l.Pairwise BS) {m : Aa} (hm : m ∈ l) : B2 l m.d.a = m.count := by
  induction l with
  | nil => cases hm
  | cons x l ih =>
    rw [List.pairwise_cons] at h
    rw [Ep]
    rcases List.mem_cons.1 hm with rfl | h2
    · rw [if_pos rfl]
    · rw [if_neg (I6 (h.1 m h2)), ih h.2 h2]
structure BJ (ms:List Aa)(cl:List Ad):Prop where
 hm:ms.Pairwise BS
 hp:∀m∈ms,1≤m.count
 hc:cl.Pairwise CC
 hg:∀d∈cl,B2 ms d.a+1<d.count
theorem BJ.pos {ms:List Aa}{cl:List Ad}(h:BJ ms cl)(a:AU):0≤B2 ms a:=by
 by_cases hz:B2 ms a=0
 ·omega
 ·obtain⟨m,hm,-,e⟩:=Ea hz
  have:=h.hp m hm;omega
theorem BJ.nil :BJ [] []:=⟨List.Pairwise.nil,by simp,List.Pairwise.nil,by simp⟩
theorem I8 {ms ms':List Aa}{cl cl':List Ad}(h:BJ ms cl)(h':BJ ms' cl')(he:∀d,B0 ms cl d→B0 ms' cl' d)(a:AU):B2 ms a≤B2 ms' a:=by
 obtain⟨an,al⟩:=a
 refine Decidable.byContradiction fun hlt=> ?_
 have hp':=h'.pos ⟨an,al⟩
 have hq:B0 ms cl ⟨an,al,B2 ms' ⟨an,al⟩+1⟩:= .inl ⟨by show(1:Int)≤B2 ms' ⟨an,al⟩+1;omega,by show B2 ms' ⟨an,al⟩+1≤B2 ms ⟨an,al⟩;omega⟩
 rcases he _ hq with⟨_,h2⟩|⟨_,h2⟩
 ·replace h2:B2 ms' ⟨an,al⟩+1≤B2 ms' ⟨an,al⟩:=h2;omega
 ·have h3:B2 ms' ⟨an,al⟩+1<B2 ms' ⟨an,al⟩+1:=h'.hg _ h2;omega
theorem PR {ms ms':List Aa}{cl cl':List Ad}(h:BJ ms cl)(h':BJ ms' cl')(he:∀d,B0 ms cl d↔B0 ms' cl' d):ms=ms'∧cl=cl':=by
 have hmk:∀a,B2 ms a=B2 ms' a:=fun a=>Int.le_antisymm (I8 h h' (fun d=>(he d).1) a) (I8 h' h (fun d=>(he d).2) a)
 have hsub:∀{ms ms':List Aa},ms.Pairwise BS→(∀m∈ms,1≤m.count)→ms'.Pairwise BS→(∀a,B2 ms a=B2 ms' a)→∀m∈ms,m∈ms':=by
  intro ms ms' h1 h2 h3 h4 m hm
  have e:=Er h1 hm
  have p:=h2 m hm
  obtain⟨x,hx,ha,hc⟩:=Ea (ms:=ms') (a:=m.d.a) (by rw[←h4];omega)
  have:x=m:=Aa.eta ha (by rw[hc,←h4,e])
  exact this▸hx
 have e1:ms=ms':=PP h.hm h'.hm fun m=>⟨hsub h.hm h.hp h'.hm hmk m,hsub h'.hm h'.hp h.hm (fun a=>(hmk a).symm) m⟩
 refine⟨e1,PQ h.hc h'.hc ?_⟩
 subst e1
 have hs:∀{cl cl':List Ad},BJ ms cl→BJ ms cl'→(∀d,B0 ms cl d→B0 ms cl' d)→∀d∈cl,d∈cl':=by
  intro cl cl' h h' he d hd
  have hg:=h.hg d hd
  have hp:=h.pos d.a
  rcases he d (.inr ⟨by omega,hd⟩)with⟨_,h2⟩|⟨_,h2⟩
  ·omega
  ·exact h2
 exact fun d=>⟨hs h h' (fun d=>(he d).1) d,hs h' h (fun d=>(he d).2) d⟩
theorem Fp {α : Type} {r : α → α → Prop} (tr : ∀ a b c, r a b → r b c → r a c) {l : List α} (h : ∀ i x y, l[i]? = some x → l[i + 1]? = some y → r x y) : l.Pairwise r := by
  induction l with
  | nil => exact List.Pairwise.nil
  | cons a l ih =>
    have hl := ih fun i x y h1 h2 => h (i + 1) x y (by simpa using h1) (by simpa using h2)
    refine List.pairwise_cons.2 ⟨?_, hl⟩
    cases l with
    | nil => simp
    | cons b l =>
      have hab := h 0 a b rfl rfl
      intro x hx
      rcases List.mem_cons.1 hx with rfl | hx
      · exact hab
      · exact tr _ _ _ hab ((List.pairwise_cons.1 hl).1 x hx)
theorem Ct {α:Type}{r:α→α→Prop}{l:List α}(h:l.Pairwise r){i j:Nat}{x y:α}(hij:i<j)(hx:l[i]? =some x)(hy:l[j]? =some y):r x y:=by
 obtain⟨hi,rfl⟩:=List.getElem?_eq_some_iff.1 hx
 obtain⟨hj,rfl⟩:=List.getElem?_eq_some_iff.1 hy
 exact List.pairwise_iff_getElem.1 h i j hi hj hij
theorem DF.canon {ms:List Aa}{cl:List Ad}(h:DF ms cl):BJ ms cl:=by
 refine⟨Fp (r:=BS) (fun _ _ _=>CF) fun i x y hx hy=> ?_,fun m hm=>(h.may hm).2.2.1,Fp (r:=CC) (fun _ _ _=>E4) fun i x y hx hy=> ?_,fun d hd=> ?_⟩
 ·exact((h.2.2.1 (i+1)) y hy).2 Zo x hx
 ·exact((h.2.2.2 (i+1)) y hy).2.1 Zo x hx
 ·obtain⟨j,hj,rfl⟩:=List.getElem_of_mem hd
  exact(h.2.2.2 j _ (List.getElem?_eq_getElem hj)).2.2
theorem BJ.can {ms:List Aa}{cl:List Ad}(h:BJ ms cl)(h1:ms.length≤64)(h2:cl.length≤64)(h3:∀m∈ms,AE m.d)(h4:∀d∈cl,AE d):DF ms cl:=by
 refine⟨h1,h2,fun i m hm=>⟨h3 m (List.mem_of_getElem? hm),fun hi x hx=>Ct h.hm Zo hx hm⟩,fun i d hd=>⟨h4 d (List.mem_of_getElem? hd),fun hi x hx=>Ct h.hc Zo hx hd,h.hg d (List.mem_of_getElem? hd)⟩⟩
theorem BJ.may {ms:List Aa}{cl:List Ad}(h:BJ ms cl)(hd:∀d,B0 ms cl d→AE d):(∀m∈ms,AE m.d)∧∀d∈cl,AE d:=by
 refine⟨fun m hm=>hd _ (.inl ⟨h.hp m hm,?_⟩),fun d hd'=>hd _ (.inr ⟨?_,hd'⟩)⟩
 ·rw[Er h.hm hm];exact Int.le_refl _
 ·have:=h.hg d hd';have:=h.pos d.a;omega
def F8 (M:List Aa)(D:List Ad)(d:Ad):Prop:=1≤d.count∧((∃m∈M,m.d.a=d.a∧d.count≤m.count)∨d∈D)
theorem BJ.raw {ms:List Aa}{cl:List Ad}(h:BJ ms cl)(d:Ad):B0 ms cl d↔F8 ms cl d:=by
 constructor
 ·rintro(⟨h1,h2⟩|⟨h1,h2⟩)
  ·obtain⟨m,hm,ha,hc⟩:=Ea (ms:=ms) (a:=d.a) Zo
   exact⟨h1,.inl ⟨m,hm,ha,by omega⟩⟩
  ·exact⟨h1,.inr h2⟩
 ·rintro⟨h1,⟨m,hm,ha,hc⟩|h2⟩
  ·refine .inl ⟨h1,?_⟩
   rw[←ha,Er h.hm hm];exact hc
  ·exact .inr ⟨h1,h2⟩
theorem BJ.of_raw {ms M:List Aa}{cl D:List Ad}(h:BJ ms cl)(hr:∀d,F8 ms cl d↔F8 M D d):∀d,B0 ms cl d↔F8 M D d:=fun d=>(h.raw d).trans (hr d)
def Qg (a b:Ad):Bool:= !decide (CC b a)
def AT (l:List Ad):List Ad:=l.mergeSort Qg
theorem PS (a b c:Ad)(h1:Qg a b=true)(h2:Qg b c=true):Qg a c=true:=by
 simp only[Qg,Bool.not_eq_true',decide_eq_false_iff_not]at*;unfold CC at*;omega
theorem PT (a b:Ad):(Qg a b||Qg b a)=true:=by
 simp only[Qg,Bool.or_eq_true,Bool.not_eq_true',decide_eq_false_iff_not];unfold CC;omega
theorem DM {l:List Ad}{d:Ad}:d∈AT l↔d∈l:=List.mem_mergeSort
theorem I9 (l:List Ad):(AT l).Pairwise (fun a b=>¬CC b a):=by
 have:=List.pairwise_mergeSort (le:=Qg) PS PT l
 exact this.imp fun h=>by simpa[Qg]using h
def Cn (acc:List Aa)(d:Ad):List Aa:=
 match acc.getLast? with
 |some m=>if m.d.a=d.a then acc.dropLast++[⟨m.node,m.life,d.count⟩]else acc++[d.m]
 |none=>[d.m]
def Ce (l:List Ad):List Aa:=l.foldl Cn []
theorem HZ (acc:List Aa)(m:Aa)(d:Ad):Cn (acc++[m]) d=if m.d.a=d.a then acc++[⟨m.node,m.life,d.count⟩]else acc++[m]++[d.m]:=by
 unfold Cn;rw[List.getLast?_append];simp
theorem Ja (d:Ad):Cn [] d=[d.m]:=rfl
structure Fq (acc:List Aa)(l:List Ad):Prop where
 hm:acc.Pairwise BS
 hp:∀m∈acc,1≤m.count
 hl:∀m,acc.getLast? =some m→l.getLast? =some m.d
 he:acc=[]↔l=[]
 hr:∀d:Ad,1≤d.count→((∃m∈acc,m.d.a=d.a∧d.count≤m.count)↔∃x∈l,x.a=d.a∧d.count≤x.count)
theorem Fq.step {acc:List Aa}{l:List Ad}{d:Ad}(h:Fq acc l)(hd:1≤d.count)(hle:∀x∈l,¬CC d x):Fq (Cn acc d) (l++[d]):=by
 rcases List.eq_nil_or_concat acc with rfl|⟨ls,m,rfl⟩
 ·have:=h.he.1 rfl;subst this
  rw[Ja]
  refine⟨by simp,by simpa using hd,by simp,by simp,fun e he=> ?_⟩
  simp
 ·rw[List.concat_eq_append]at h⊢
  have hlast:=h.hl m Zs
  have hml:m.d∈l:=List.mem_of_getLast? hlast
  have hmd:=hle _ hml
  have hm:=h.hm
  rw[List.pairwise_append]at hm
  have hp:=h.hp
  rw[HZ]
  by_cases ha:m.d.a=d.a
  ·rw[if_pos ha]
   have hc:m.count≤d.count:=by
    simp only[Aa.d,Ad.a,AU.mk.injEq]at ha;simp only[Aa.d,CC]at hmd;omega
   refine⟨List.pairwise_append.2 ⟨hm.1,by simp,fun x hx y hy=> ?_⟩,fun x hx=> ?_,fun x hx=> ?_,by simp,fun e he=> ?_⟩
   ·simp only[List.mem_singleton]at hy;subst hy
    exact(I7 (a:=m) rfl).1 (hm.2.2 x hx m Zs)
   ·rcases List.mem_append.1 hx with h2|h2
    ·exact hp x (by simp[h2])
    ·simp only[List.mem_singleton]at h2;subst h2;exact hd
   ·simp only[List.getLast?_append,List.getLast?_singleton,Option.some_or,Option.some.injEq]at hx⊢
    subst hx
    simp only[Aa.d,Ad.a,AU.mk.injEq]at ha⊢
    exact Ad.eta ha.1.symm ha.2.symm rfl
   ·have h0:=h.hr e he
    constructor
    ·rintro⟨x,hx,h1,h2⟩
     rcases List.mem_append.1 hx with h3|h3
     ·obtain⟨y,hy,h4⟩:=h0.1 ⟨x,by simp[h3],h1,h2⟩
      exact⟨y,by simp[hy],h4⟩
     ·simp only[List.mem_singleton]at h3;subst h3
      exact⟨d,by simp,ha▸h1,h2⟩
    ·rintro⟨x,hx,h1,h2⟩
     rcases List.mem_append.1 hx with h3|h3
     ·obtain⟨y,hy,h4,h5⟩:=h0.2 ⟨x,h3,h1,h2⟩
      rcases List.mem_append.1 hy with h6|h6
      ·exact⟨y,by simp[h6],h4,h5⟩
      ·simp only[List.mem_singleton]at h6;subst h6
       exact⟨_,List.mem_append_right _ (List.mem_singleton.2 rfl),h4,Int.le_trans h5 hc⟩
     ·simp only[List.mem_singleton]at h3;subst h3
      exact⟨_,List.mem_append_right _ (List.mem_singleton.2 rfl),ha.trans h1,h2⟩
  ·rw[if_neg ha]
   have hlt:BS m d.m:=by
    simp only[Aa.d,Ad.a,AU.mk.injEq]at ha;simp only[Aa.d,CC]at hmd;simp only[BS];omega
   refine⟨List.pairwise_append.2 ⟨h.hm,by simp,fun x hx y hy=> ?_⟩,fun x hx=> ?_,fun x hx=> ?_,by simp,fun e he=> ?_⟩
   ·simp only[List.mem_singleton]at hy;subst hy
    rcases List.mem_append.1 hx with h2|h2
    ·exact CF (hm.2.2 x h2 m Zs) hlt
    ·simp only[List.mem_singleton]at h2;subst h2;exact hlt
   ·rcases List.mem_append.1 hx with h2|h2
    ·exact hp x h2
    ·simp only[List.mem_singleton]at h2;subst h2;exact hd
   ·simp only[List.getLast?_append,List.getLast?_singleton,Option.some_or,Option.some.injEq]at hx⊢
    subst hx;rfl
   ·have h0:=h.hr e he
    constructor
    ·rintro⟨x,hx,h1,h2⟩
     rcases List.mem_append.1 hx with h3|h3
     ·obtain⟨y,hy,h4⟩:=h0.1 ⟨x,h3,h1,h2⟩
      exact⟨y,by simp[hy],h4⟩
     ·simp only[List.mem_singleton]at h3;subst h3
      exact⟨d,by simp,h1,h2⟩
    ·rintro⟨x,hx,h1,h2⟩
     rcases List.mem_append.1 hx with h3|h3
     ·obtain⟨y,hy,h4⟩:=h0.2 ⟨x,h3,h1,h2⟩
      exact⟨y,List.mem_append_left _ hy,h4⟩
     ·simp only[List.mem_singleton]at h3;subst h3
      exact⟨x.m,List.mem_append_right _ Zs,h1,h2⟩
theorem Fq.all {l : List Ad} (hp : ∀ d ∈ l, 1 ≤ d.count) (hs : l.Pairwise (fun a b => ¬ CC b a)) : Fq (Ce l) l := by
  have key : ∀ (r l : List Ad) (acc : List Aa), Fq acc l → (∀ d ∈ r, 1 ≤ d.count) → (l ++ r).Pairwise (fun a b => ¬ CC b a) → Fq (r.foldl Cn acc) (l ++ r) := by
    intro r
    induction r with
    | nil => intro l acc h _ _; simpa using h
    | cons d r ih =>
      intro l acc h h1 h2
      have := ih (l ++ [d]) (Cn acc d) (h.step (h1 d Zs) fun x hx => (List.pairwise_append.1 h2).2.2 x hx d Zs) (fun x hx => h1 x (by simp [hx])) (by simpa using h2)
      simpa using this
  have h := key l [] [] ⟨List.Pairwise.nil, by simp, by simp, by simp, by simp⟩ hp (by simpa using hs)
  rw [List.nil_append] at h
  exact h
def setM :List Aa→Ad→List Aa
 |[],d=>[d.m]
 |m::l,d=>if m.d.a=d.a then⟨m.node,m.life,d.count⟩::l else if BS d.m m then d.m::m::l else m::setM l d
theorem Jb {l : List Aa} {d : Ad} {x : Aa} (h : x ∈ setM l d) : x = d.m ∨ x ∈ l := by
  induction l with
  | nil => simp [setM] at h; exact .inl h
  | cons m l ih =>
    rw [setM] at h
    split at h
    · rename_i ha
      rcases List.mem_cons.1 h with rfl | h
      · exact .inl (Aa.eta ha rfl)
      · exact .inr (by simp [h])
    · split at h
      · rcases List.mem_cons.1 h with rfl | h
        · exact .inl rfl
        · exact .inr h
      · rcases List.mem_cons.1 h with rfl | h
        · exact .inr Zs
        · rcases ih h with h | h
          · exact .inl h
          · exact .inr (by simp [h])
theorem H0 {l : List Aa} {d : Ad} (h : l.Pairwise BS) : (setM l d).Pairwise BS := by
  induction l with
  | nil => simp [setM]
  | cons m l ih =>
    rw [List.pairwise_cons] at h
    rw [setM]
    split
    · exact List.pairwise_cons.2 ⟨fun x hx => (Kq (a := m) rfl).1 (h.1 x hx), h.2⟩
    · rename_i ha
      split
      · rename_i hlt
        refine List.pairwise_cons.2 ⟨fun x hx => ?_, List.pairwise_cons.2 h⟩
        rcases List.mem_cons.1 hx with rfl | hx
        · exact hlt
        · exact CF hlt (h.1 x hx)
      · rename_i hlt
        refine List.pairwise_cons.2 ⟨fun x hx => ?_, ih h.2⟩
        rcases Jb hx with rfl | hx
        · exact (Lf (a := m) (b := d.m) ha).elim id fun h2 => absurd h2 hlt
        · exact h.1 x hx
theorem OJ {l : List Aa} {d : Ad} (a : AU) : B2 (setM l d) a = if d.a = a then d.count else B2 l a := by
  induction l with
  | nil => rw [setM, Ep]
  | cons m l ih =>
    rw [setM]
    split
    · rename_i ha
      rw [Ep, Ep]
      by_cases h : d.a = a
      · rw [if_pos (show (⟨m.node, m.life, d.count⟩ : Aa).d.a = a from ha.trans h), if_pos h]
      · rw [if_neg (show ¬ (⟨m.node, m.life, d.count⟩ : Aa).d.a = a from fun e => h (ha.symm.trans e)), if_neg h, if_neg (fun e => h (ha.symm.trans e))]
    · rename_i ha
      split
      · rw [Ep]
      · rw [Ep, ih, Ep]
        by_cases h : d.a = a
        · rw [if_pos h, if_neg (fun e => ha (e.trans h.symm)), if_pos h]
        · rw [if_neg h, if_neg h]
def BF (c:List Aa×List Ad)(d:Ad):List Aa×List Ad:=
 if d.count≤B2 c.1 d.a then c else if B2 c.1 d.a+1<d.count then(c.1,c.2++[d])else(setM c.1 d,c.2)
theorem Mk {ms:List Aa}{cl:List Ad}{d:Ad}(h:BJ ms cl)(hd:1≤d.count)(hlt:∀x∈cl,CC x d):
  BJ (BF (ms,cl) d).1 (BF (ms,cl) d).2∧(∀x,B0 (BF (ms,cl) d).1 (BF (ms,cl) d).2 x↔B0 ms cl x∨x=d)∧(∀x∈(BF (ms,cl) d).2,x∈cl∨x=d):=by
 unfold BF
 simp only
 have hpos:=h.pos d.a
 split
 ·rename_i h1
  refine⟨h,fun x=>⟨.inl,?_⟩,fun x hx=> .inl hx⟩
  rintro(h2|rfl)
  ·exact h2
  ·exact .inl ⟨hd,h1⟩
 ·split
  ·rename_i h1 h2
   refine⟨⟨h.hm,h.hp,List.pairwise_append.2 ⟨h.hc,by simp,fun x hx y hy=> ?_⟩,fun x hx=> ?_⟩,fun x=> ?_,fun x hx=>by simpa using hx⟩
   ·simp only[List.mem_singleton]at hy;subst hy;exact hlt x hx
   ·rcases List.mem_append.1 hx with hx|hx
    ·exact h.hg x hx
    ·simp only[List.mem_singleton]at hx;subst hx;exact h2
   ·simp only[B0,List.mem_append,List.mem_singleton]
    constructor
    ·rintro(h3|⟨h3,h4|h4⟩)
     ·exact .inl (.inl h3)
     ·exact .inl (.inr ⟨h3,h4⟩)
     ·exact .inr h4
    ·rintro((h3|⟨h3,h4⟩)|rfl)
     ·exact .inl h3
     ·exact .inr ⟨h3,.inl h4⟩
     ·exact .inr ⟨hd,.inr rfl⟩
  ·rename_i h1 h2
   have hc:d.count=B2 ms d.a+1:=by omega
   have hno:∀x∈cl,x.a≠d.a:=fun x hx e=>by
    have h3:=h.hg x hx
    have h4:=hlt x hx
    rw[e]at h3
    simp only[Ad.a,AU.mk.injEq]at e;unfold CC at h4;omega
   refine⟨⟨H0 h.hm,fun m hm=> ?_,h.hc,fun x hx=> ?_⟩,fun x=> ?_,fun x hx=> .inl hx⟩
   ·rcases Jb hm with rfl|h3
    ·exact hd
    ·exact h.hp m h3
   ·rw[OJ,if_neg (fun e=>hno x hx e.symm)];exact h.hg x hx
   ·simp only[B0,OJ]
    by_cases ha:d.a=x.a
    ·rw[if_pos ha]
     rw[←ha]
     constructor
     ·rintro(⟨h3,h4⟩|h3)
      ·by_cases h5:x.count=d.count
       ·right
        simp only[Ad.a,AU.mk.injEq]at ha
        exact Ad.eta ha.1.symm ha.2.symm h5
       ·exact .inl (.inl ⟨h3,by omega⟩)
      ·exact .inl (.inr h3)
     ·rintro((⟨h3,h4⟩|h3)|rfl)
      ·exact .inl ⟨h3,by omega⟩
      ·exact .inr h3
      ·exact .inl ⟨hd,Int.le_refl _⟩
    ·rw[if_neg ha]
     constructor
     ·exact .inl
     ·rintro(h3|rfl)
      ·exact h3
      ·exact absurd rfl ha
theorem PU {l : List Ad} {c : List Aa × List Ad} (h : BJ c.1 c.2) (hp : ∀ d ∈ l, 1 ≤ d.count) (hs : (c.2 ++ l).Pairwise CC) :
    BJ (l.foldl BF c).1 (l.foldl BF c).2 ∧ (∀ x, B0 (l.foldl BF c).1 (l.foldl BF c).2 x ↔ B0 c.1 c.2 x ∨ x ∈ l) := by
  induction l generalizing c with
  | nil => exact ⟨h, fun x => by simp⟩
  | cons d l ih =>
    have hs' := List.pairwise_append.1 hs
    obtain ⟨h1, h2, h3⟩ := Mk (d := d) h (hp d Zs) fun x hx => hs'.2.2 x hx d Zs
    have hd := List.pairwise_cons.1 hs'.2.1
    obtain ⟨h4, h5⟩ := ih (c := BF c d) h1 (fun x hx => hp x (by simp [hx])) (List.pairwise_append.2 ⟨h1.hc, hd.2, fun x hx y hy => by
      rcases h3 x hx with h6 | rfl
      · exact hs'.2.2 x h6 y (by simp [hy])
      · exact hd.1 y hy⟩)
    refine ⟨h4, fun x => ?_⟩
    rw [List.foldl_cons, h5, h2, List.mem_cons, or_assoc]
def compD :List Ad→List Ad
 |[]=>[]
 |[a]=>[a]
 |a::b::l=>if a=b then compD (b::l)else a::compD (b::l)
theorem F9 {l : List Ad} {d : Ad} : d ∈ compD l ↔ d ∈ l := by
  induction l with
  | nil => simp [compD]
  | cons a l ih =>
    cases l with
    | nil => simp [compD]
    | cons b l =>
      rw [compD]
      split
      · rename_i h; subst h; rw [ih]; simp
      · rw [List.mem_cons, ih]; simp
theorem Lg {l : List Ad} (h : l.Pairwise (fun a b => ¬ CC b a)) : (compD l).Pairwise CC := by
  induction l with
  | nil => simp [compD]
  | cons a l ih =>
    cases l with
    | nil => simp [compD]
    | cons b l =>
      rw [List.pairwise_cons] at h
      rw [compD]
      split
      · exact ih h.2
      · rename_i hab
        refine List.pairwise_cons.2 ⟨fun x hx => ?_, ih h.2⟩
        have hx' := F9.1 hx
        have h1 := h.1 b Zs
        have hlt : CC a b := Decidable.byContradiction fun h2 => hab (Io h2 h1)
        rcases List.mem_cons.1 hx' with rfl | h3
        · exact hlt
        · have h4 := (List.pairwise_cons.1 h.2).1 x h3
          unfold CC at *; omega
def Bu (M:List Aa)(D:List Ad):List Aa×List Ad:=(compD (AT D)).foldl BF (Ce (AT (M.map Aa.d)),[])
theorem GE {M:List Aa}{D:List Ad}(hM:∀m∈M,1≤m.count)(hD:∀d∈D,1≤d.count):
  BJ (Bu M D).1 (Bu M D).2∧∀d,B0 (Bu M D).1 (Bu M D).2 d↔F8 M D d:=by
 have hm:=Fq.all (l:=AT (M.map Aa.d)) (fun d hd=>by
  obtain⟨m,hm,rfl⟩:=List.mem_map.1 (DM.1 hd);exact hM m hm) (I9 _)
 have hc:BJ (Ce (AT (M.map Aa.d))) []:=⟨hm.hm,hm.hp,List.Pairwise.nil,by simp⟩
 obtain⟨h1,h2⟩:=PU (l:=compD (AT D)) (c:=(Ce (AT (M.map Aa.d)),[])) hc (fun d hd=>hD d (DM.1 (F9.1 hd))) (by simpa using Lg (I9 D))
 refine⟨h1,fun d=>(h2 d).trans ?_⟩
 rw[hc.raw,F9,DM]
 constructor
 ·rintro(⟨h3,h4|h4⟩|h3)
  ·obtain⟨x,hx,h5,h6⟩:=(hm.hr d h3).1 h4
   obtain⟨m,hm',rfl⟩:=List.mem_map.1 (DM.1 hx)
   exact⟨h3,.inl ⟨m,hm',h5,h6⟩⟩
  ·cases h4
  ·exact⟨hD d h3,.inr h3⟩
 ·rintro⟨h3,⟨m,hm',h5,h6⟩|h4⟩
  ·exact .inl ⟨h3,.inl ((hm.hr d h3).2 ⟨m.d,DM.2 (List.mem_map.2 ⟨m,hm',rfl⟩),h5,h6⟩)⟩
  ·exact .inr h4
theorem Ml {M:List Aa}{D:List Ad}{ms:List Aa}{cl:List Ad}(hM:∀m∈M,1≤m.count)(hD:∀d∈D,1≤d.count)
  (h:BJ ms cl) (hr:∀d,B0 ms cl d↔F8 M D d):Bu M D=(ms,cl):=by
 obtain⟨h1,h2⟩:=GE hM hD
 obtain⟨e1,e2⟩:=PR h1 h fun d=>(h2 d).trans (hr d).symm
 exact Prod.ext e1 e2
def E5 (m:Aa)(s:List Aa×Bool)(x:Aa):List Aa×Bool:=
 if x.d.a=m.d.a then(s.1++[⟨x.node,x.life,max x.count m.count⟩],true)else if s.2=false∧BS m x then(s.1++[m]++[x],true)else(s.1++[x],s.2)
def EL (l:List Aa)(m:Aa):List Aa:=if (l.foldl (E5 m) ([],false)).2 then(l.foldl (E5 m) ([],false)).1 else(l.foldl (E5 m) ([],false)).1++[m]
def maxM :List Aa→Aa→List Aa
 |[],m=>[m]
 |x::t,m=>if x.d.a=m.d.a then⟨x.node,x.life,max x.count m.count⟩::t else if BS m x then m::x::t else x::maxM t m
theorem OK {l : List Aa} {m : Aa} (h : ∀ x ∈ l, x.d.a ≠ m.d.a) (out : List Aa) : l.foldl (E5 m) (out, true) = (out ++ l, true) := by
  induction l generalizing out with
  | nil => simp
  | cons x l ih =>
    rw [List.foldl_cons, E5, if_neg (h x Zs), if_neg Zs, ih fun y hy => h y (by simp [hy])]
    simp
theorem Ru {l : List Aa} {m : Aa} (h : l.Pairwise BS) (out : List Aa) :
    (if (l.foldl (E5 m) (out, false)).2 then (l.foldl (E5 m) (out, false)).1 else (l.foldl (E5 m) (out, false)).1 ++ [m]) = out ++ maxM l m := by
  induction l generalizing out with
  | nil => simp [maxM]
  | cons x l ih =>
    rw [List.pairwise_cons] at h
    rw [List.foldl_cons, maxM]
    by_cases ha : x.d.a = m.d.a
    · have e : E5 m (out, false) x = (out ++ [⟨x.node, x.life, max x.count m.count⟩], true) := by rw [E5, if_pos ha]
      rw [e, if_pos ha, OK fun y hy e => I6 (h.1 y hy) (ha.trans e.symm)]
      simp
    · rw [if_neg ha]
      by_cases hl : BS m x
      · have e : E5 m (out, false) x = (out ++ [m] ++ [x], true) := by rw [E5, if_neg ha, if_pos ⟨rfl, hl⟩]
        rw [e, if_pos hl, OK fun y hy e => I6 (CF hl (h.1 y hy)) e.symm]
        simp
      · have e : E5 m (out, false) x = (out ++ [x], false) := by rw [E5, if_neg ha, if_neg (by simp [hl])]
        rw [e, if_neg hl, ih h.2]
        simp
theorem OL {l:List Aa}(h:l.Pairwise BS)(m:Aa):EL l m=maxM l m:=by
 have:=Ru (m:=m) h []
 simpa[EL]using this
theorem Mm {l : List Aa} {m x : Aa} (h : x ∈ maxM l m) : x = m ∨ x ∈ l ∨ (x.d.a = m.d.a ∧ ∃ y ∈ l, y.d.a = m.d.a ∧ x.count = max y.count m.count) := by
  induction l with
  | nil => simp [maxM] at h; exact .inl h
  | cons y l ih =>
    rw [maxM] at h
    split at h
    · rename_i ha
      rcases List.mem_cons.1 h with rfl | h
      · exact .inr (.inr ⟨ha, y, by simp, ha, rfl⟩)
      · exact .inr (.inl (by simp [h]))
    · split at h
      · rcases List.mem_cons.1 h with rfl | h
        · exact .inl rfl
        · exact .inr (.inl h)
      · rcases List.mem_cons.1 h with rfl | h
        · exact .inr (.inl Zs)
        · rcases ih h with h | h | ⟨h, z, hz, h2⟩
          · exact .inl h
          · exact .inr (.inl (by simp [h]))
          · exact .inr (.inr ⟨h, z, by simp [hz], h2⟩)
theorem H1 {l : List Aa} {m : Aa} (h : l.Pairwise BS) : (maxM l m).Pairwise BS := by
  induction l with
  | nil => simp [maxM]
  | cons x l ih =>
    rw [List.pairwise_cons] at h
    rw [maxM]
    split
    · exact List.pairwise_cons.2 ⟨fun y hy => (Kq (a := x) rfl).1 (h.1 y hy), h.2⟩
    · rename_i ha
      split
      · rename_i hlt
        refine List.pairwise_cons.2 ⟨fun y hy => ?_, List.pairwise_cons.2 h⟩
        rcases List.mem_cons.1 hy with rfl | hy
        · exact hlt
        · exact CF hlt (h.1 y hy)
      · rename_i hlt
        have hxm : BS x m := (Lf ha).elim id fun h2 => absurd h2 hlt
        refine List.pairwise_cons.2 ⟨fun y hy => ?_, ih h.2⟩
        rcases Mm hy with rfl | hy | ⟨hy, -⟩
        · exact hxm
        · exact h.1 y hy
        · exact (I7 (c := x) hy).2 hxm
theorem Mn {l:List Aa}{m:Aa}(h:∀x∈l,1≤x.count)(hm:1≤m.count):∀x∈maxM l m,1≤x.count:=by
 intro x hx
 rcases Mm hx with rfl|hx|⟨-,y,hy,-,e⟩
 ·exact hm
 ·exact h x hx
 ·have:=h y hy;omega
theorem Mo (l : List Aa) (m : Aa) : (maxM l m).length ≤ l.length + 1 := by
  induction l with
  | nil => simp [maxM]
  | cons x l ih =>
    rw [maxM]
    split
    · simp
    · split <;> simp <;> omega
theorem Mp {l : List Aa} {m : Aa} (a : AU) (c : Int) : (∃ x ∈ maxM l m, x.d.a = a ∧ c ≤ x.count) ↔ (∃ x ∈ l, x.d.a = a ∧ c ≤ x.count) ∨ (m.d.a = a ∧ c ≤ m.count) := by
  induction l with
  | nil => simp [maxM]
  | cons x l ih =>
    rw [maxM]
    split
    · rename_i ha
      constructor
      · rintro ⟨y, hy, h1, h2⟩
        rcases List.mem_cons.1 hy with rfl | hy
        · simp only at h2
          by_cases h3 : c ≤ x.count
          · exact .inl ⟨x, by simp, h1, h3⟩
          · exact .inr ⟨ha ▸ h1, by omega⟩
        · exact .inl ⟨y, by simp [hy], h1, h2⟩
      · rintro (⟨y, hy, h1, h2⟩ | ⟨h1, h2⟩)
        · rcases List.mem_cons.1 hy with rfl | hy
          · exact ⟨_, List.mem_cons_self .., h1, by simp only; omega⟩
          · exact ⟨y, by simp [hy], h1, h2⟩
        · exact ⟨_, List.mem_cons_self .., ha.trans h1, by simp only; omega⟩
    · split
      · constructor
        · rintro ⟨y, hy, h1, h2⟩
          rcases List.mem_cons.1 hy with rfl | hy
          · exact .inr ⟨h1, h2⟩
          · exact .inl ⟨y, hy, h1, h2⟩
        · rintro (⟨y, hy, h1⟩ | h1)
          · exact ⟨y, List.mem_cons_of_mem _ hy, h1⟩
          · exact ⟨m, by simp, h1⟩
      · constructor
        · rintro ⟨y, hy, h1, h2⟩
          rcases List.mem_cons.1 hy with rfl | hy
          · exact .inl ⟨_, by simp, h1, h2⟩
          · rcases ih.1 ⟨y, hy, h1, h2⟩ with ⟨z, hz, h3⟩ | h3
            · exact .inl ⟨z, by simp [hz], h3⟩
            · exact .inr h3
        · rintro (⟨y, hy, h1⟩ | h1)
          · rcases List.mem_cons.1 hy with rfl | hy
            · exact ⟨_, by simp, h1⟩
            · obtain ⟨z, hz, h3⟩ := ih.2 (.inl ⟨y, hy, h1⟩)
              exact ⟨z, by simp [hz], h3⟩
          · obtain ⟨z, hz, h3⟩ := ih.2 (.inr h1)
            exact ⟨z, by simp [hz], h3⟩
structure D3 (l M:List Aa):Prop where
 hm:l.Pairwise BS
 hp:∀m∈l,1≤m.count
 hl:l.length≤M.length
 hr:∀a c,(∃x∈l,x.d.a=a∧c≤x.count)↔∃x∈M,x.d.a=a∧c≤x.count
theorem D3.nil :D3 [] []:=⟨List.Pairwise.nil,by simp,by simp,by simp⟩
theorem D3.step {l M:List Aa}{m:Aa}(h:D3 l M)(hm:1≤m.count):D3 (EL l m) (M++[m]):=by
 rw[OL h.hm]
 refine⟨H1 h.hm,Mn h.hp hm,by have:=Mo l m;have:=h.hl;simp;omega,fun a c=> ?_⟩
 rw[Mp,h.hr]
 simp only[List.mem_append,List.mem_singleton,or_and_right,exists_or,exists_eq_left]
def E6 (d:Ad)(s:List Ad×Bool)(x:Ad):List Ad×Bool:=
 if (s.2=false∧x≠d)∧CC d x then(s.1++[d]++[x],true)else(s.1++[x],s.2||decide (x=d))
def Fr (l:List Ad)(d:Ad):List Ad:=if (l.foldl (E6 d) ([],false)).2 then(l.foldl (E6 d) ([],false)).1 else(l.foldl (E6 d) ([],false)).1++[d]
def insD :List Ad→Ad→List Ad
 |[],d=>[d]
 |x::t,d=>if x=d then x::t else if CC d x then d::x::t else x::insD t d
theorem OM (l:List Ad)(d:Ad)(out:List Ad):l.foldl (E6 d) (out,true)=(out++l,true):=by
 induction l generalizing out with
 |nil=>simp
 |cons x l ih=>rw[List.foldl_cons,E6,if_neg Zs,Bool.true_or,ih];simp
theorem Rv (l : List Ad) (d : Ad) (out : List Ad) :
    (if (l.foldl (E6 d) (out, false)).2 then (l.foldl (E6 d) (out, false)).1 else (l.foldl (E6 d) (out, false)).1 ++ [d]) = out ++ insD l d := by
  induction l generalizing out with
  | nil => simp [insD]
  | cons x l ih =>
    rw [List.foldl_cons, insD]
    by_cases he : x = d
    · have e : E6 d (out, false) x = (out ++ [x], true) := by rw [E6, if_neg (by simp [he]), decide_eq_true he, Bool.or_true]
      rw [e, if_pos he, OM]; simp
    · rw [if_neg he]
      by_cases hl : CC d x
      · have e : E6 d (out, false) x = (out ++ [d] ++ [x], true) := by rw [E6, if_pos ⟨⟨rfl, he⟩, hl⟩]
        rw [e, if_pos hl, OM]; simp
      · have e : E6 d (out, false) x = (out ++ [x], false) := by rw [E6, if_neg (by simp [hl]), decide_eq_false he, Bool.or_false]
        rw [e, if_neg hl, ih]; simp
theorem Tz (l:List Ad)(d:Ad):Fr l d=insD l d:=by
 have:=Rv l d []
 simpa[Fr]using this
theorem Mq {l : List Ad} {d x : Ad} : x ∈ insD l d ↔ x ∈ l ∨ x = d := by
  induction l with
  | nil => simp [insD]
  | cons y l ih =>
    rw [insD]
    split
    · rename_i h; subst h; simp only [List.mem_cons]; constructor
      · exact .inl
      · rintro (h | rfl)
        · exact h
        · exact .inl rfl
    · split
      · simp only [List.mem_cons]; constructor
        · rintro (h | h)
          · exact .inr h
          · exact .inl h
        · rintro (h | h)
          · exact .inr h
          · exact .inl h
      · simp only [List.mem_cons, ih, or_assoc]
theorem Mr {l : List Ad} {d : Ad} (h : l.Pairwise CC) : (insD l d).Pairwise CC := by
  induction l with
  | nil => simp [insD]
  | cons x l ih =>
    have h0 := h
    rw [List.pairwise_cons] at h
    rw [insD]
    split
    · exact h0
    · rename_i he
      split
      · rename_i hlt
        refine List.pairwise_cons.2 ⟨fun y hy => ?_, h0⟩
        rcases List.mem_cons.1 hy with rfl | hy
        · exact hlt
        · exact E4 hlt (h.1 y hy)
      · rename_i hlt
        refine List.pairwise_cons.2 ⟨fun y hy => ?_, ih h.2⟩
        rcases Mq.1 hy with hy | rfl
        · exact h.1 y hy
        · exact Decidable.byContradiction fun h2 => he (Io h2 hlt)
theorem Rw (l : List Ad) (d : Ad) : (insD l d).length ≤ l.length + 1 := by
  induction l with
  | nil => simp [insD]
  | cons x l ih =>
    rw [insD]
    split
    · simp
    · split <;> simp <;> omega
structure D4 (l D:List Ad):Prop where
 hs:l.Pairwise CC
 hl:l.length≤D.length
 hr:∀x,x∈l↔x∈D
theorem D4.nil :D4 [] []:=⟨List.Pairwise.nil,by simp,by simp⟩
theorem D4.step {l D:List Ad}(h:D4 l D)(d:Ad):D4 (Fr l d) (D++[d]):=by
 rw[Tz]
 exact⟨Mr h.hs,by have:=Rw l d;have:=h.hl;simp;omega,fun x=>by rw[Mq,h.hr];simp⟩
structure SS where
 ms:List Aa
 left:List Ad
 again:Bool
def Jc (s:SS)(d:Ad):SS:=
 if d.count≤B2 s.ms d.a then s else if d.count=B2 s.ms d.a+1 then⟨EL s.ms d.m,s.left,true⟩else⟨s.ms,s.left++[d],s.again⟩
structure E7 (M:List Aa)(D:List Ad)(ms:List Aa)(ds:List Ad):Prop where
 hm:ms.Pairwise BS
 hp:∀m∈ms,1≤m.count
 hs:ds.Pairwise CC
 hd:∀d∈ds,1≤d.count
 hl:ms.length+ds.length≤M.length+D.length
 hr:∀d,F8 ms ds d↔F8 M D d
structure Es (ms0:List Aa)(ds:List Ad)(s:SS)(i:Nat):Prop where
 hm:s.ms.Pairwise BS
 hp:∀m∈s.ms,1≤m.count
 hsub:s.left.Sublist (ds.take i)
 hlen:s.ms.length+s.left.length≤ms0.length+(ds.take i).length
 hr:∀d,F8 s.ms s.left d↔F8 ms0 (ds.take i) d
 hag:s.again=true→s.left.length<(ds.take i).length
 hno:s.again=false→∀d∈s.left,B2 s.ms d.a+1<d.count
theorem Es.zero {ms:List Aa}(ds:List Ad)(hm:ms.Pairwise BS)(hp:∀m∈ms,1≤m.count):Es ms ds ⟨ms,[],false⟩ 0:=
 ⟨hm,hp,by simp,by simp,by simp,by simp,by simp⟩
theorem ON {ms:List Aa}(h:ms.Pairwise BS){a:AU}{c:Int}(hc:1≤c):(∃m∈ms,m.d.a=a∧c≤m.count)↔c≤B2 ms a:=by
 constructor
 ·rintro⟨m,hm,rfl,h2⟩;rw[Er h hm];exact h2
 ·intro h2;obtain⟨m,hm,h3,h4⟩:=Ea (ms:=ms) (a:=a) Zo;exact⟨m,hm,h3,by omega⟩
theorem Es.step {ms0:List Aa}{ds:List Ad}{s:SS}{i:Nat}{d:Ad}(h:Es ms0 ds s i)(hd:ds[i]? =some d)(hc:1≤d.count):Es ms0 ds (Jc s d) (i+1):=by
 obtain⟨hi,rfl⟩:=List.getElem?_eq_some_iff.1 hd
 have ht:=List.take_succ_eq_append_getElem hi
 have hl:(ds.take (i+1)).length=(ds.take i).length+1:=by rw[ht,List.length_append,List.length_singleton]
 have hraw:∀x,F8 ms0 (ds.take (i+1)) x↔F8 ms0 (ds.take i) x∨x=ds[i]:=fun x=>by
  rw[ht];simp only[F8,List.mem_append,List.mem_singleton]
  constructor
  ·rintro⟨h1,h2|h2|h2⟩
   ·exact .inl ⟨h1,.inl h2⟩
   ·exact .inl ⟨h1,.inr h2⟩
   ·exact .inr h2
  ·rintro(⟨h1,h2|h2⟩|rfl)
   ·exact⟨h1,.inl h2⟩
   ·exact⟨h1,.inr (.inl h2)⟩
   ·exact⟨hc,.inr (.inr rfl)⟩
 unfold Jc
 split
 ·rename_i h1
  refine⟨h.hm,h.hp,ht▸h.hsub.trans (List.sublist_append_left ..),by have:=h.hlen;omega,fun x=> ?_,fun e=>by have:=h.hag e;omega,h.hno⟩
  rw[hraw,←h.hr]
  constructor
  ·exact .inl
  ·rintro(h2|rfl)
   ·exact h2
   ·exact⟨hc,.inl ((ON h.hm hc).2 h1)⟩
 ·split
  ·rename_i h1 h2
   rw[OL h.hm]
   refine⟨H1 h.hm,Mn h.hp hc,ht▸h.hsub.trans (List.sublist_append_left ..),by have:=Mo s.ms ds[i].m;have:=h.hlen;simp only;omega,fun x=> ?_,fun _=>by have:=h.hsub.length_le;simp only;omega,fun e=>by cases e⟩
   rw[hraw,←h.hr]
   simp only[F8,Mp]
   constructor
   ·rintro⟨h3,(h4|⟨h4,h5⟩)|h4⟩
    ·exact .inl ⟨h3,.inl h4⟩
    ·replace h4:ds[i].a=x.a:=h4
     replace h5:x.count≤ds[i].count:=h5
     by_cases h6:x.count=ds[i].count
     ·right;simp only[Ad.a,AU.mk.injEq]at h4;exact Ad.eta h4.1.symm h4.2.symm h6
     ·exact .inl ⟨h3,.inl ((ON h.hm h3).2 (by rw[←h4];omega))⟩
    ·exact .inl ⟨h3,.inr h4⟩
   ·rintro(⟨h3,h4|h4⟩|rfl)
    ·exact⟨h3,.inl (.inl h4)⟩
    ·exact⟨h3,.inr h4⟩
    ·exact⟨hc,.inl (.inr ⟨rfl,Int.le_refl _⟩)⟩
  ·rename_i h1 h2
   refine⟨h.hm,h.hp,ht▸h.hsub.append (List.Sublist.refl _),by have:=h.hlen;rw[hl,List.length_append,List.length_singleton];simp only;omega,fun x=> ?_,fun e=>by have:=h.hag e;rw[hl,List.length_append,List.length_singleton];omega,fun e x hx=> ?_⟩
   ·rw[hraw,←h.hr]
    simp only[F8,List.mem_append,List.mem_singleton]
    constructor
    ·rintro⟨h3,h4|h4|h4⟩
     ·exact .inl ⟨h3,.inl h4⟩
     ·exact .inl ⟨h3,.inr h4⟩
     ·exact .inr h4
    ·rintro(⟨h3,h4|h4⟩|rfl)
     ·exact⟨h3,.inl h4⟩
     ·exact⟨h3,.inr (.inl h4)⟩
     ·exact⟨hc,.inr (.inr rfl)⟩
   ·rcases List.mem_append.1 hx with hx|hx
    ·exact h.hno e x hx
    ·simp only[List.mem_singleton]at hx;subst hx;simp only;omega
theorem E7.start {M l:List Aa}{D k:List Ad}(h:D3 l M)(hk:D4 k D)(hD:∀d∈D,1≤d.count):E7 M D l k:=
 ⟨h.hm,h.hp,hk.hs,fun d hd=>hD d ((hk.hr d).1 hd),by have:=h.hl;have:=hk.hl;omega,fun d=>by simp only[F8,h.hr,hk.hr]⟩
theorem E7.round {M ms:List Aa}{D ds:List Ad}{s:SS}(h:E7 M D ms ds)(hr:Es ms ds s ds.length):E7 M D s.ms s.left:=by
 have hs:=hr.hsub;rw[List.take_length]at hs
 refine⟨hr.hm,hr.hp,h.hs.sublist hs,fun d hd=>h.hd d (hs.subset hd),by have h1:=hr.hlen;have:=h.hl;rw[List.take_length]at h1;omega,fun d=> ?_⟩
 rw[hr.hr,List.take_length];exact h.hr d
theorem E7.done {M ms:List Aa}{D ds:List Ad}(h:E7 M D ms ds)(hM:∀m∈M,1≤m.count)(hD:∀d∈D,1≤d.count)(hn:∀d∈ds,B2 ms d.a+1<d.count):Bu M D=(ms,ds):=
 have hc:BJ ms ds:=⟨h.hm,h.hp,h.hs,hn⟩
 Ml hM hD hc (hc.of_raw h.hr)
def TA (ms:List Aa)(cl:List Ad)(ms':List Aa)(cl':List Ad):Prop:=(∀m∈ms,m.count≤B2 ms' m.d.a)∧∀d∈cl,B0 ms' cl' d
instance (ms :List Aa)(cl:List Ad)(ms':List Aa)(cl':List Ad):Decidable (TA ms cl ms' cl'):=by unfold TA;infer_instance
theorem Jd {ms ms':List Aa}{cl cl':List Ad}(h:BJ ms cl)(h':BJ ms' cl'):TA ms cl ms' cl'↔∀d,B0 ms cl d→B0 ms' cl' d:=by
 constructor
 ·rintro⟨h1,h2⟩ d (⟨h3,h4⟩|⟨h3,h4⟩)
  ·obtain⟨m,hm,ha,hc⟩:=Ea (ms:=ms) (a:=d.a) Zo
   have:=h1 m hm
   rw[ha]at this
   exact .inl ⟨h3,by omega⟩
  ·exact h2 d h4
 ·intro he
  refine⟨fun m hm=> ?_,fun d hd=>he d (.inr ⟨?_,hd⟩)⟩
  ·have:=I8 h h' he m.d.a
   rw[Er h.hm hm]at this;exact this
  ·have:=h.hg d hd;have:=h.pos d.a;omega
theorem BJ.next {ms:List Aa}{cl:List Ad}(h:BJ ms cl){d:Ad}(hd:d.count=B2 ms d.a+1):¬d∈cl:=fun hm=>by have:=h.hg d hm;omega
theorem Lh {ms:List Aa}(h:∀i,Uj ms i)(a:AU):0≤B2 ms a∧B2 ms a≤1099511627776:=by
 by_cases hz:B2 ms a=0
 ·omega
 ·obtain⟨m,hm,-,e⟩:=Ea hz
  obtain⟨j,hj,rfl⟩:=List.getElem_of_mem hm
  have:=(h j _ (List.getElem?_eq_getElem hj)).1
  simp only[AE,Aa.d]at this
  omega
theorem Ga {ms:List Aa}{i:Nat}(h:∀j,j<i→Uj ms j)(hi:ms.length≤i):∀j,Uj ms j:=fun j m hm=>by
 obtain⟨hj,-⟩:=List.getElem?_eq_some_iff.1 hm
 exact h j Zo m hm
theorem OO {ms:List Aa}{cl:List Ad}{i:Nat}(h:∀j,j<i→PO ms cl j)(hi:cl.length≤i):∀j,PO ms cl j:=fun j d hd=>by
 obtain⟨hj,-⟩:=List.getElem?_eq_some_iff.1 hd
 exact h j Zo d hd
theorem BA {p:Nat→Prop}{i:Nat}(h:∀j,j<i→p j)(hi:p i):∀j,j<i+1→p j:=fun j hj=>by
 by_cases e:j=i
 ·subst e;exact hi
 ·exact h j Zo
theorem DV {i:Nat}(h:0<i):(((i:Nat):Int)-1).toNat=i-1:=by omega
theorem VV {ms:List Aa}{i:Nat}{m x:Aa}(hm:ms[i]? =some m)(hi:0<i)(hx:ms[i-1]? =some x)(h:¬BS x m):¬Uj ms i:=fun ho=>h ((ho m hm).2 hi x hx)
theorem Wn {ms:List Aa}{i:Nat}{m:Aa}(hm:ms[i]? =some m)(h1:AE m.d)(h2:0<i→∀x,ms[i-1]? =some x→BS x m):Uj ms i:=fun m' hm'=>by
 rw[hm]at hm';cases hm';exact⟨h1,h2⟩
theorem Wo {ms:List Aa}{cl:List Ad}{i:Nat}{d:Ad}(hd:cl[i]? =some d)(h1:AE d)(h2:0<i→∀x,cl[i-1]? =some x→CC x d)(h3:B2 ms d.a+1<d.count):PO ms cl i:=fun d' hd'=>by
 rw[hd]at hd';cases hd';exact⟨h1,h2,h3⟩
theorem Li {α:Type}{xs:List α}{i:Nat}{x y:α}{p:α→Prop}(hx:xs[i]? =some x)(h:p x)(hy:xs[i]? =some y):p y:=by rw[hx]at hy;cases hy;exact h
theorem OP {x m:Aa}(h:0≤BL ⟨x.node,x.life,0⟩ ⟨m.node,m.life,0⟩):¬BS x m:=Rq.1 h
theorem Ms {x m:Aa}(h:BL ⟨x.node,x.life,0⟩ ⟨m.node,m.life,0⟩<0):BS x m:=Decidable.byContradiction fun h2=>absurd (Rq.2 h2) (Int.not_le.2 h)
attribute [local irreducible] AE FC CC BS BL B2 B0 Du
attribute [local irreducible] X
theorem TB (am:Option Addr)(ms:List Aa)(cm:Nat)(ac:Option Addr)(cl:List Ad)(cc:Nat)(w:World)(hs:As w am ms)(ht:As w ac cl)(hl:ms.length≤4294967295)(hl2:cl.length≤4294967295):
  Calls prog 79 #[.agg #[.slice am ms.length cm,.slice ac cl.length cc]] w (AS (fun v w'=>v= .bool (B4 ms cl)∧Aq w w')):=by
 refine Ae (n:=88) func79 rfl rfl rfl ?_;refine jG ?_;refine jR<|jB ?_;intro a3 aI au a0 aD;have:w.heap.size≤a3:=au;clear au;have K0:=(aD:Aq w _);refine jG ?_;refine jV (CI rfl rfl rfl) ?_;refine jG ?_;refine jF ?_ ?_
 ·intro hc17
  refine jG ?_;refine jJ func79 ?_;exact⟨_,rfl,by rw[Da (fun h=>by have:=h.1;have:=h.2.1;omega)],K0⟩
 ·intro hc17
  have hl64:ms.length≤64:=by omega
  have hl65:cl.length≤64:=by omega
  refine jG ?_;refine Aj.loop (ι:=Nat) (fun i ρ' w'=>Holds ρ' [(1,jp a3),(19,.slice am ms.length cm),(20,.int .i64 ((ms.length:Nat):Int)),(21,.int .i64 ((i:Nat):Int))]∧Aq w w'∧(AA w' a3 [.slice am ms.length cm,.slice ac cl.length cc] 31)∧(i≤ms.length)∧(∀j,j<i→Uj ms j)) (fun i=>ms.length-i) 0 ?_ ?_
  ·refine⟨⟨rfl,rfl,rfl,rfl,trivial⟩,K0,a0,?_,?_⟩
   ·omega
   ·exact fun j hj=>absurd hj (Nat.not_lt_zero j)
  clear a0;clear K0;rintro i aJ aK ⟨av,K0,a0,hi,hk⟩ ih1;obtain⟨ρ₀,rfl⟩:=av.ex;clear av;refine jG ?_;refine jF ?_ ?_
  ·intro hc22
   refine Ex ?_;obtain⟨aL,aM,m,hm,aE,a5⟩:=hs.eo i;have hc_12_lt:=a5.lt;refine jV (AI underlying28 ty46 rfl rfl aE Zl) ?_;replace a5:=a5.ext K0;refine jG ?_;refine jR<|jA ?_;intro aN aO a6 a2 aw;have aP:=Ai a0.lt a6;have aQ:=Ai a5.lt a6;have:=Nat.le_trans K0.size a6;clear a6;refine jG ?_;refine jR<|jS a2 ?_;intro aR a2 ax;refine jG ?_;refine jR<|jC (HF m _) ?_;rintro _ aS ⟨rfl,ab⟩;refine jR<|jC (Kp (Aa.d m) _) ?_;rintro _ aT ⟨rfl,ad⟩;refine jG ?_;replace a0:=(((a0.ext aw).kp ax).ext ab).ext ad;replace K0:=(((K0.ext aw).n1 ax).ext ab).ext ad;replace a2:=(a2.ext ab).ext ad;refine jF ?_ ?_
   ·intro hc29
    refine jG ?_;refine jJ func79 ?_;exact⟨_,rfl,by rw[Da (fun h=>hc29 (h.2.2.1 i m hm).1)],K0⟩
   ·intro hc29
    refine jG ?_;refine jF ?_ ?_
    ·intro hc31
     refine jG ?_;refine jV (BE rfl rfl Zo Zo) ?_;obtain⟨aU,aV,x,hx,aF,a7⟩:=hs.el (i:=(((i:Nat):Int)-1).toNat) Zl;have hc_31_lt:=a7.lt;refine jV (DG underlying28 ty46 rfl rfl aF Zo Zl) ?_;replace a7:=a7.ext K0;refine jG ?_;refine jR<|jA ?_;intro aW aX a4 ay ae;have aY:=Ai a0.lt a4;have aZ:=Ai a2.lt a4;have b0:=Ai a7.lt a4;have:=Nat.le_trans K0.size a4;clear a4;refine jR<|jS ay ?_;intro b1 ay af;have hxm:=(hk _ Zo x hx).1;refine jG ?_;refine jV (AC (cells:=#[.int .i64 ((x).node),.int .i64 ((x).life),.int .i64 0]) Zk) ?_;replace a2:=(a2.ext ae).kp af;refine jG ?_;refine jV (AC (cells:=#[.int .i64 ((m).node),.int .i64 ((m).life),.int .i64 0]) Zk) ?_;refine jR<|jC (NC (⟨(x).node,(x).life,0⟩:Ad) (⟨(m).node,(m).life,0⟩:Ad) _ (AE.z hxm) (AE.z hc29)) ?_;rintro _ b2 ⟨rfl,az⟩;refine jG ?_;replace a0:=((a0.ext ae).kp af).ext az;replace K0:=((K0.ext ae).n1 af).ext az;refine jF ?_ ?_
     ·intro hc49
      refine jG ?_;refine jJ func79 ?_;exact⟨_,rfl,by rw[Da (fun h=>VV hm Zo (by rw[←DV Zo];exact hx) (OP hc49) (h.2.2.1 i))],K0⟩
     ·intro hc49
      refine jG ?_;refine jV (At (c:=((i+1:Nat):Int)) (An rfl rfl Zo Zo) rfl) ?_;refine jG ?_;refine ih1 (i+1) _ _ ?_ Zo;refine⟨⟨rfl,rfl,rfl,rfl,trivial⟩,K0,a0,?_,?_⟩
      ·omega
      ·exact BA hk (Wn hm hc29 (fun h_ _=>Li (p:=fun y=>BS y m) (by rw[←DV Zo];exact hx) (Ms hc49)))
    ·intro hc31
     refine jG ?_;refine jV (At (c:=((i+1:Nat):Int)) (An rfl rfl Zo Zo) rfl) ?_;refine jG ?_;refine ih1 (i+1) _ _ ?_ Zo;refine⟨⟨rfl,rfl,rfl,rfl,trivial⟩,K0,a0,?_,?_⟩
     ·omega
     ·exact BA hk (Wn hm hc29 (fun h_=>absurd h_ Zo))
  ·intro hc22
   refine jG ?_;refine Aj.loop (ι:=Nat) (fun i ρ' w'=>Holds ρ' [(1,jp a3),(52,.slice ac cl.length cc),(53,.int .i64 ((cl.length:Nat):Int)),(54,.int .i64 ((i:Nat):Int))]∧Aq w w'∧(AA w' a3 [.slice am ms.length cm,.slice ac cl.length cc] 31)∧(i≤cl.length)∧(∀j,j<i→PO ms cl j)) (fun i=>cl.length-i) 0 ?_ ?_
   ·refine⟨⟨rfl,rfl,rfl,rfl,trivial⟩,K0,a0,?_,?_⟩
    ·omega
    ·exact fun j hj=>absurd hj (Nat.not_lt_zero j)
   clear a0;clear K0;rintro i b3 b4 ⟨aA,K0,a0,hi,hk2⟩ ih2;obtain⟨ρ₀,rfl⟩:=aA.ex;clear aA;refine jG ?_;refine jF ?_ ?_
   ·intro hc55
    refine Ex ?_;obtain⟨b5,b6,d,hd,aG,a8⟩:=ht.eo i;have hc_52_lt:=a8.lt;refine jV (AI underlying29 ty73 rfl rfl aG Zl) ?_;replace a8:=a8.ext K0;refine jG ?_;refine jR<|jA ?_;intro b7 b8 a9 a1 aB;have b9:=Ai a0.lt a9;have ba:=Ai a8.lt a9;have:=Nat.le_trans K0.size a9;clear a9;refine jG ?_;refine jR<|jS a1 ?_;intro bb a1 aC;refine Ds ?_;replace a0:=(a0.ext aB).kp aC;replace K0:=(K0.ext aB).n1 aC;by_cases hA:AE d
    ·by_cases hB:0<i
     ·have hmk:=Lh (Ga hk Zo) d.a
      refine Aj.drawS [] [1000,2001,2,3,4,5,6,7,1008,9,10,11,1013,2012,2014,15,16,17,18,19,1020,1021,1022,2023,2024,25,26,27] ?_;intro bc ag;replace a0:=a0.ext ag;replace a1:=a1.ext ag;refine jM (jb a0 (jb a1 Jn)) ?_;refine jG ?_;refine jU rfl<|jC (Kp d _) ?_;rintro _ be ⟨rfl,ah⟩;replace a0:=a0.ext ah;replace a1:=a1.ext ah;refine Ds ?_;refine jP ?_ (hx:=by exact fun _=>(CW (Bo rfl) (by simp[hA])));refine FJ ?_;refine jQ ?_ (hx:=by exact fun _ hg=>(Cq (D6 rfl rfl) Zi));refine jG ?_;refine jQ ?_ (hx:=by exact fun _ hg=>(BE rfl rfl Zo Zo));obtain⟨bg,bh,x,hx,aH,aa⟩:=ht.el (i:=(((i:Nat):Int)-1).toNat) Zl;have hc_71_lt:=aa.lt;replace K0:=(K0.ext ag).ext ah;refine jQ ?_ (hx:=by exact fun _ hg=>(DG underlying29 ty73 rfl rfl aH Zo Zl));refine jG ?_;replace aa:=aa.ext K0;refine jX rfl<|jO (Dw (v:= .agg #[.int .i64 ((x).node),.int .i64 ((x).life),.int .i64 ((x).count)]) (y:=x) ty73 rfl aa rfl) ?_;refine jG ?_;refine jX rfl<|jC (NC x d _ (hk2 _ Zo x hx).1.sm hA.sm) ?_;rintro _ bi ⟨rfl,ai⟩;replace a0:=a0.ext ai;replace a1:=a1.ext ai;refine jG ?_;refine jQ ?_ (hx:=by exact fun _ hg=>(Bv rfl rfl rfl));refine jP ?_ (hx:=by exact fun _=>(Dh rfl rfl rfl));refine jG ?_;refine jZ (fun hg=>(GD d _)) ?_;intro bj aj;replace a0:=a0.ext aj;replace a1:=a1.ext aj;refine jG ?_;replace K0:=(K0.ext ai).ext aj;refine jZ (fun hg=>(OH am ms cm ac cl cc (Ad.a d) _ (hs.ext K0) (ht.ext K0) Zo Zo)) ?_;intro bk ak;replace a0:=a0.ext ak;replace a1:=a1.ext ak;refine jG ?_;refine jQ ?_ (hx:=by exact fun _ hg=>(An (Bf hg) rfl Zo Zo));refine jG ?_;refine jP ?_ (hx:=by exact fun _=>(CI rfl rfl rfl));refine jG ?_;replace K0:=K0.ext ak;refine jF ?_ ?_
      ·intro hc86
       refine jG ?_;refine jJ func79 ?_;exact⟨_,rfl,by rw[Da (fun h=>hc86.elim (fun h4=>absurd ((h.2.2.2 i d hd).2.1 Zo x (by rw[←DV Zo];exact hx)) (OE.1 h4)) (fun h4=>absurd h4 (Int.not_le.2 (h.2.2.2 i d hd).2.2)))],K0⟩
      ·intro hc86
       refine jG ?_;refine jV (At (c:=((i+1:Nat):Int)) (An rfl rfl Zo Zo) rfl) ?_;refine jG ?_;refine ih2 (i+1) _ _ ?_ Zo;refine⟨⟨rfl,rfl,rfl,rfl,trivial⟩,K0,a0,?_,?_⟩
       ·omega
       ·exact BA hk2 (Wo hd hA (fun h_ _=>Li (p:=fun y=>CC y d) (by rw[←DV Zo];exact hx) (DP.1 hc86.1)) hc86.2)
     ·have hmk:=Lh (Ga hk Zo) d.a
      refine Aj.drawS [] [1000,2001,2,3,4,5,6,7,8,9,10,11,12,13,2014,15,16,17,18,19,1020,1021,1022,2023,2024,25,26,27] ?_;intro bl al;replace a0:=a0.ext al;replace a1:=a1.ext al;refine jM (jb a0 (jb a1 Jn)) ?_;refine jG ?_;refine jU rfl<|jC (Kp d _) ?_;rintro _ bm ⟨rfl,an⟩;replace a0:=a0.ext an;replace a1:=a1.ext an;refine Ds ?_;refine jP ?_ (hx:=by exact fun _=>(CW (Bo rfl) (by simp[hA])));refine FJ ?_;refine jQ ?_ (hx:=by exact fun _ hg=>(CW (D6 rfl rfl) Zi));refine jG ?_;refine jY ?_;refine jG ?_;refine jQ ?_ (hx:=by exact fun _ hg=>(AJ (b:=false) (e:=false) rfl rfl rfl));refine jP ?_ (hx:=by exact fun _=>(Dh rfl rfl rfl));refine jG ?_;refine jX rfl<|jC (GD d _) ?_;rintro _ bn ⟨rfl,ao⟩;replace a0:=a0.ext ao;replace a1:=a1.ext ao;refine jG ?_;replace K0:=((K0.ext al).ext an).ext ao;refine jX rfl<|jC (OH am ms cm ac cl cc (Ad.a d) _ (hs.ext K0) (ht.ext K0) Zo Zo) ?_;rintro _ bo ⟨rfl,ap⟩;replace a0:=a0.ext ap;replace a1:=a1.ext ap;refine jG ?_;refine jQ ?_ (hx:=by exact fun _ hg=>(An rfl rfl Zo Zo));refine jG ?_;refine jP ?_ (hx:=by exact fun _=>(Dh rfl rfl rfl));refine jG ?_;replace K0:=K0.ext ap;refine jF ?_ ?_
      ·intro hc86
       refine jG ?_;refine jJ func79 ?_;exact⟨_,rfl,by rw[Da (fun h=>absurd hc86 (Int.not_le.2 (h.2.2.2 i d hd).2.2))],K0⟩
      ·intro hc86
       refine jG ?_;refine jV (At (c:=((i+1:Nat):Int)) (An rfl rfl Zo Zo) rfl) ?_;refine jG ?_;refine ih2 (i+1) _ _ ?_ Zo;refine⟨⟨rfl,rfl,rfl,rfl,trivial⟩,K0,a0,?_,?_⟩
       ·omega
       ·exact BA hk2 (Wo hd hA (fun h_=>absurd h_ Zo) hc86)
    ·skip
     refine Aj.drawS [] [1000,2001,2,3,4,5,6,7,8,9,10,11,12,13,2014,15,16,17,18,19,20,21,22,2023,2024,25,26,27] ?_;intro bp aq;replace a0:=a0.ext aq;replace a1:=a1.ext aq;refine jM (jb a0 (jb a1 Jn)) ?_;refine jG ?_;refine jU rfl<|jC (Kp d _) ?_;rintro _ bq ⟨rfl,ar⟩;replace a0:=a0.ext ar;replace a1:=a1.ext ar;refine Ds ?_;refine jP ?_ (hx:=by exact fun _=>(Cq (Bo rfl) (by simp[hA])));refine jG ?_;refine jY ?_;refine jG ?_;refine jP ?_ (hx:=by exact fun _=>(CI (b:=true) (e:=false) rfl rfl rfl));refine jG ?_;refine jY ?_;refine jG ?_;refine jY ?_;refine jG ?_;refine jP ?_ (hx:=by exact fun _=>(CI (b:=true) (e:=false) rfl rfl rfl));refine jG ?_;refine Ed ?_;refine jG ?_;refine jJ func79 ?_;replace K0:=(K0.ext aq).ext ar;exact⟨_,rfl,by rw[Da (fun h=>hA (h.2.2.2 i d hd).1)],K0⟩
   ·intro hc55
    refine jG ?_;refine jJ func79 ?_;exact⟨_,rfl,by rw[DB ⟨hl64,hl65,Ga hk Zo,OO hk2 Zo⟩],K0⟩
theorem Rx (am:Option Addr)(ms:List Aa)(cm:Nat)(ac:Option Addr)(cl:List Ad)(cc:Nat)(w:World)(hs:As w am ms)(ht:As w ac cl)(hl:ms.length≤4294967295)(hl2:cl.length≤4294967295):
  Calls prog 70 #[.agg #[.slice am ms.length cm,.slice ac cl.length cc]] w (AS (fun v w'=>v= .bool (B4 ms cl)∧Aq w w')):=by
 refine Ae (n:=105) func70 rfl rfl rfl ?_;refine jG ?_;refine jR<|jB ?_;intro a5 aM ao a0 ay;have:w.heap.size≤a5:=ao;clear ao;have K0:=(ay:Aq w _);refine jG ?_;refine jV (CI rfl rfl rfl) ?_;refine jG ?_;refine jF ?_ ?_
 ·intro hc16
  refine jG ?_;refine jJ func70 ?_;exact⟨_,rfl,by rw[Da (fun h=>by have:=h.1;have:=h.2.1;omega)],K0⟩
 ·intro hc16
  have hl64:ms.length≤64:=by omega
  have hl65:cl.length≤64:=by omega
  refine jG ?_;refine Aj.loop (ι:=Nat) (fun i ρ' w'=>Holds ρ' [(1,jp a5),(18,.slice am ms.length cm),(19,.int .i64 ((ms.length:Nat):Int)),(20,.int .i64 ((i:Nat):Int))]∧Aq w w'∧(AA w' a5 [.slice am ms.length cm,.slice ac cl.length cc] 31)∧(i≤ms.length)∧(∀j,j<i→Uj ms j)) (fun i=>ms.length-i) 0 ?_ ?_
  ·refine⟨⟨rfl,rfl,rfl,rfl,trivial⟩,K0,a0,?_,?_⟩
   ·omega
   ·exact fun j hj=>absurd hj (Nat.not_lt_zero j)
  clear a0;clear K0;rintro i aN aO ⟨ap,K0,a0,hi,hk⟩ ih1;obtain⟨ρ₀,rfl⟩:=ap.ex;clear ap;refine jG ?_;refine jF ?_ ?_
  ·intro hc21
   refine Ex ?_;obtain⟨aP,aQ,m,hm,az,a6⟩:=hs.eo i;have hc_12_lt:=a6.lt;refine jV (AI underlying28 ty46 rfl rfl az Zl) ?_;replace a6:=a6.ext K0;refine jG ?_;refine jR<|jA ?_;intro aR aS a7 a2 aq;have aT:=Ai a0.lt a7;have aU:=Ai a6.lt a7;have:=Nat.le_trans K0.size a7;clear a7;refine jG ?_;refine jR<|jS a2 ?_;intro aV a2 ar;refine jG ?_;refine jR<|jC (Rt m _) ?_;rintro _ aW ⟨rfl,ag⟩;refine jG ?_;replace a0:=((a0.ext aq).kp ar).ext ag;replace K0:=((K0.ext aq).n1 ar).ext ag;replace a2:=a2.ext ag;refine jF ?_ ?_
   ·intro hc27
    refine jG ?_;refine jJ func70 ?_;exact⟨_,rfl,by rw[Da (fun h=>hc27 (h.2.2.1 i m hm).1)],K0⟩
   ·intro hc27
    refine Ds ?_;by_cases hB:0<i
    ·obtain⟨aX,aA,x,hx,aB,a8⟩:=hs.el (i:=(((i:Nat):Int)-1).toNat) Zl
     have hc_31_lt:=a8.lt;obtain⟨aY,aC,aD,aE,aF,a9⟩:=hs.el (i:=(((i:Nat):Int)-1).toNat) Zl;have hc_37_lt:=a9.lt;obtain rfl:x=aD:=Option.some.inj (hx.symm.trans aE);obtain⟨aZ,aG,aH,aI,aJ,aa⟩:=hs.el (i:=(((i:Nat):Int)-1).toNat) Zl;have hc_43_lt:=aa.lt;obtain rfl:x=aH:=Option.some.inj (hx.symm.trans aI);refine Aj.drawR ?_;intro b0 a3;refine Ex ?_;refine jD (Cq (D6 rfl rfl) Zi) ?_;replace a0:=a0.ext a3;refine jG ?_;refine jE ?_ (hx:=by exact fun hg=>(BE rfl rfl Zo Zo));refine jE ?_ (hx:=by exact fun hg=>(DG underlying28 ty46 rfl rfl aB Zo Zl));refine jE ?_ (hx:=by exact fun hg=>(D7 (o':=aA+(((i:Nat):Int)-1).toNat*3+0) underlying46 rfl ty3 rfl rfl rfl));replace a8:=(a8.ext K0).ext a3;refine jE ?_ (hx:=by exact fun hg=>(Ey ty3 rfl rfl (a8.field (i:=0) rfl)));replace a2:=a2.ext a3;refine jG ?_;refine jE ?_ (hx:=by exact fun hg=>(BE (Bf hg) rfl Zo Zo));refine jE ?_ (hx:=by exact fun hg=>(DG underlying28 ty46 (Bf hg) (Bf hg) aF Zo Zl));refine jE ?_ (hx:=by exact fun hg=>(D7 (o':=aC+(((i:Nat):Int)-1).toNat*3+0) underlying46 rfl ty3 rfl (Bf hg) rfl));replace a9:=(a9.ext K0).ext a3;refine jE ?_ (hx:=by exact fun hg=>(Ey ty3 (Bf hg) rfl (a9.field (i:=0) rfl)));refine jG ?_;refine jE ?_ (hx:=by exact fun hg=>(BE (Bf hg) rfl Zo Zo));refine jE ?_ (hx:=by exact fun hg=>(DG underlying28 ty46 (Bf hg) (Bf hg) aJ Zo Zl));refine jE ?_ (hx:=by exact fun hg=>(D7 (o':=aG+(((i:Nat):Int)-1).toNat*3+1) underlying46 rfl ty3 rfl (Bf hg) rfl));replace aa:=(aa.ext K0).ext a3;refine jE ?_ (hx:=by exact fun hg=>(Ey ty3 (Bf hg) rfl (aa.field (i:=1) rfl)));refine jG ?_;refine jE ?_ (hx:=by exact fun hg=>(ID hg rfl rfl rfl));refine jE ?_ (hx:=by exact fun hg=>(CI rfl rfl rfl));refine jD (Bv rfl rfl rfl) ?_;refine jG ?_;replace K0:=K0.ext a3;refine jF ?_ ?_
     ·intro hc65
      refine jG ?_;refine jJ func70 ?_;exact⟨_,rfl,by rw[Da (fun h=>VV hm hB (by rw[←DV Zo];exact hx) (by unfold BS;omega) (h.2.2.1 i))],K0⟩
     ·intro hc65
      refine jG ?_;refine jV (At (c:=((i+1:Nat):Int)) (An rfl rfl Zo Zo) rfl) ?_;refine jG ?_;refine ih1 (i+1) _ _ ?_ Zo;refine⟨⟨rfl,rfl,rfl,rfl,trivial⟩,K0,a0,?_,?_⟩
      ·omega
      ·exact BA hk (Wn hm hc27 (fun h_ _=>Li (p:=fun y=>BS y m) (by rw[←DV Zo];exact hx) (by unfold BS;omega)))
    ·refine Aj.drawR ?_
     intro b1 au;refine Ex ?_;refine jD (CW (D6 rfl rfl) Zi) ?_;refine jG ?_;refine jD (AJ (b:=false) (e:=false) rfl rfl rfl) ?_;refine jG ?_;refine Aj.condF rfl ?_;refine jG ?_;refine jV (At (c:=((i+1:Nat):Int)) (An rfl rfl Zo Zo) rfl) ?_;refine jG ?_;refine ih1 (i+1) _ _ ?_ Zo;replace a0:=a0.ext au;replace K0:=K0.ext au;refine⟨⟨rfl,rfl,rfl,rfl,trivial⟩,K0,a0,?_,?_⟩
     ·omega
     ·exact BA hk (Wn hm hc27 (fun h_=>absurd h_ Zo))
  ·intro hc21
   refine jG ?_;refine Aj.loop (ι:=Nat) (fun i ρ' w'=>Holds ρ' [(1,jp a5),(68,.slice ac cl.length cc),(69,.int .i64 ((cl.length:Nat):Int)),(70,.int .i64 ((i:Nat):Int))]∧Aq w w'∧(AA w' a5 [.slice am ms.length cm,.slice ac cl.length cc] 31)∧(i≤cl.length)∧(∀j,j<i→PO ms cl j)) (fun i=>cl.length-i) 0 ?_ ?_
   ·refine⟨⟨rfl,rfl,rfl,rfl,trivial⟩,K0,a0,?_,?_⟩
    ·omega
    ·exact fun j hj=>absurd hj (Nat.not_lt_zero j)
   clear a0;clear K0;rintro i b2 b3 ⟨av,K0,a0,hi,hk2⟩ ih2;obtain⟨ρ₀,rfl⟩:=av.ex;clear av;refine jG ?_;refine jF ?_ ?_
   ·intro hc71
    refine Ex ?_;obtain⟨b4,b5,d,hd,aK,ab⟩:=ht.eo i;have hc_54_lt:=ab.lt;refine jV (AI underlying29 ty73 rfl rfl aK Zl) ?_;replace ab:=ab.ext K0;refine jG ?_;refine jR<|jA ?_;intro b6 b7 ad a1 aw;have b8:=Ai a0.lt ad;have b9:=Ai ab.lt ad;have:=Nat.le_trans K0.size ad;clear ad;refine jG ?_;refine jR<|jS a1 ?_;intro ba a1 ax;refine Ds ?_;replace a0:=(a0.ext aw).kp ax;replace K0:=(K0.ext aw).n1 ax;by_cases hA:AE d
    ·have hmk:=Lh (Ga hk Zo) (⟨d.node,d.life⟩:AU)
     refine Aj.drawS [] [1000,2001,2,3,4,1005,6,1007,8,1009,10,1011,2012,13,14,15] ?_;intro bb ah;replace a0:=a0.ext ah;replace a1:=a1.ext ah;refine jM (jb a0 (jb a1 Jn)) ?_;refine jG ?_;refine jU rfl<|jC (OG d _) ?_;rintro _ bc ⟨rfl,ai⟩;replace a0:=a0.ext ai;replace a1:=a1.ext ai;refine Ds ?_;refine jP ?_ (hx:=by exact fun _=>(CW (Bo rfl) (by simp[hA])));refine jG ?_;replace K0:=(K0.ext ah).ext ai;refine jX rfl<|jC (ND _ ms _ ((d).node) ((d).life) _ (hs.ext K0) Zo) ?_;rintro _ be ⟨rfl,aj⟩;replace a0:=a0.ext aj;replace a1:=a1.ext aj;refine jG ?_;refine jQ ?_ (hx:=by exact fun _ hg=>(An rfl rfl Zo Zo));refine jG ?_;refine jP ?_ (hx:=by exact fun _=>(Dh rfl rfl rfl));refine jG ?_;replace K0:=K0.ext aj;refine jF ?_ ?_
     ·intro hc90
      refine jG ?_;refine jJ func70 ?_;exact⟨_,rfl,by rw[Da (fun h=>absurd hc90 (Int.not_le.2 (h.2.2.2 i d hd).2.2))],K0⟩
     ·intro hc90
      refine Ds ?_;by_cases hB:0<i
      ·obtain⟨bg,bh,x,hx,aL,a4⟩:=ht.el (i:=(((i:Nat):Int)-1).toNat) Zl
       have hc_77_lt:=a4.lt;refine Aj.drawS [] [0,1,2,3,1004,5,6,7,1008,1009,2010,11,12] ?_;intro bi ae;replace a4:=(a4.ext K0).ext ae;replace a0:=a0.ext ae;replace a1:=a1.ext ae;refine jM (jb a0 (jb a1 (jl a4 Jn))) ?_;refine Ex ?_;refine jP ?_ (hx:=by exact fun _=>(Cq (D6 rfl rfl) Zi));refine jG ?_;refine jQ ?_ (hx:=by exact fun _ hg=>(BE rfl rfl Zo Zo));refine jQ ?_ (hx:=by exact fun _ hg=>(DG underlying29 ty73 rfl rfl aL Zo Zl));refine jG ?_;refine jX rfl<|jC (Ld x d _) ?_;rintro _ bj ⟨rfl,af⟩;replace a0:=a0.ext af;replace a1:=a1.ext af;replace a4:=a4.ext af;refine jG ?_;refine jP ?_ (hx:=by exact fun _=>(Bv rfl rfl rfl));refine jG ?_;replace K0:=(K0.ext ae).ext af;refine jF ?_ ?_
       ·intro hc103
        refine jG ?_;refine jJ func70 ?_;exact⟨_,rfl,by rw[Da (fun h=>hc103 ((h.2.2.2 i d hd).2.1 hB x (by rw[←DV Zo];exact hx)))],K0⟩
       ·intro hc103
        refine jG ?_;refine jV (At (c:=((i+1:Nat):Int)) (An rfl rfl Zo Zo) rfl) ?_;refine jG ?_;refine ih2 (i+1) _ _ ?_ Zo;refine⟨⟨rfl,rfl,rfl,rfl,trivial⟩,K0,a0,?_,?_⟩
        ·omega
        ·exact BA hk2 (Wo hd hA (fun h_ _=>Li (p:=fun y=>CC y d) (by rw[←DV Zo];exact hx) hc103) hc90)
      ·refine Aj.drawS [] [0,1,2,3,4,5,6,7,8,9,2010,11,12] ?_
       intro bk ak;replace a0:=a0.ext ak;refine jM (jb a0 Jn) ?_;refine Ex ?_;refine jP ?_ (hx:=by exact fun _=>(CW (D6 rfl rfl) Zi));refine jG ?_;refine jY ?_;refine jG ?_;refine jP ?_ (hx:=by exact fun _=>(AJ (b:=false) (e:=false) rfl rfl rfl));refine jG ?_;refine Aj.condF rfl ?_;refine jG ?_;refine jV (At (c:=((i+1:Nat):Int)) (An rfl rfl Zo Zo) rfl) ?_;refine jG ?_;refine ih2 (i+1) _ _ ?_ Zo;replace a1:=a1.ext ak;replace K0:=K0.ext ak;refine⟨⟨rfl,rfl,rfl,rfl,trivial⟩,K0,a0,?_,?_⟩
       ·omega
       ·exact BA hk2 (Wo hd hA (fun h_=>absurd h_ Zo) hc90)
    ·have hmk:=Lh (Ga hk Zo) (⟨d.node,d.life⟩:AU)
     refine Aj.drawS [] [1000,2001,2,3,4,5,6,7,8,9,10,11,2012,13,14,15] ?_;intro bl al;replace a0:=a0.ext al;replace a1:=a1.ext al;refine jM (jb a0 (jb a1 Jn)) ?_;refine jG ?_;refine jU rfl<|jC (OG d _) ?_;rintro _ bm ⟨rfl,an⟩;replace a0:=a0.ext an;replace a1:=a1.ext an;refine Ds ?_;refine jP ?_ (hx:=by exact fun _=>(Cq (Bo rfl) (by simp[hA])));refine jG ?_;refine jY ?_;refine jG ?_;refine jP ?_ (hx:=by exact fun _=>(CI (b:=true) (e:=false) rfl rfl rfl));refine jG ?_;refine Ed ?_;refine jG ?_;refine jJ func70 ?_;replace K0:=(K0.ext al).ext an;exact⟨_,rfl,by rw[Da (fun h=>hA (h.2.2.2 i d hd).1)],K0⟩
   ·intro hc71
    refine jG ?_;refine jJ func70 ?_;exact⟨_,rfl,by rw[DB ⟨hl64,hl65,Ga hk Zo,OO hk2 Zo⟩],K0⟩
end Go.Proofs.YtjkaicjmfgekjaaGreatDoor
namespace Go.Proofs.YtjkaicjmfgekjaaGreatDoor
open Go.Proofs.Tryz
attribute [local irreducible] RD RS Av RL RA RT CJ Aj
theorem BJ.covR {ms:List Aa}{cl:List Ad}{d:Ad}(h:BJ ms cl):Du ms cl d↔B0 ms cl d:=by
 unfold Du B0
 constructor
 ·rintro(h1|h1)
  ·exact .inl h1
  ·exact .inr ⟨by have:=h.hg d h1;have:=h.pos d.a;omega,h1⟩
 ·rintro(h1|h1)
  ·exact .inl h1
  ·exact .inr h1.2
theorem GF {α:Type}{xs:List α}{p:α→Prop}{i:Nat}(h:∀j,j<i→∀x,xs[j]? =some x→p x)(hi:xs.length≤i):∀x∈xs,p x:=fun x hx=>by
 obtain⟨j,hj,rfl⟩:=List.getElem_of_mem hx
 exact h j Zo _ (List.getElem?_eq_getElem hj)
theorem FO {α:Type}{xs:List α}{p:α→Prop}{i:Nat}{x:α}(hx:xs[i]? =some x)(h:p x):∀y,xs[i]? =some y→p y:=fun y hy=>by rw[hx]at hy;cases hy;exact h
def DW (ms:List Aa)(m:Aa)(i:Nat):List Aa×Bool:=(ms.take i).foldl (E5 m) ([],false)
theorem Kr (ms:List Aa)(m:Aa):DW ms m 0=([],false):=rfl
theorem Gb {α β:Type}{f:β→α→β}{b:β}{xs:List α}{i:Nat}{x:α}(hx:xs[i]? =some x):(xs.take (i+1)).foldl f b=f ((xs.take i).foldl f b) x:=by
 obtain⟨hi,rfl⟩:=List.getElem?_eq_some_iff.1 hx
 rw[List.take_succ_eq_append_getElem hi,List.foldl_append];rfl
theorem Gc {ms:List Aa}{m x:Aa}{i:Nat}(hx:ms[i]? =some x):DW ms m (i+1)=E5 m (DW ms m i) x:=Gb hx
theorem Je (ms : List Aa) (m : Aa) (i : Nat) (hi : i ≤ ms.length) : (DW ms m i).1.length ≤ 2 * i := by
  induction i with
  | zero => rw [Kr]; simp
  | succ i ih =>
    have := ih Zo
    rw [Gc (List.getElem?_eq_getElem (show i < ms.length by omega)), E5]
    split
    · simp; omega
    · split <;> simp <;> omega
theorem Ry {ms:List Aa}{m:Aa}{i:Nat}(hi:i≤ms.length)(h:ms.length≤i)(hp:(DW ms m i).2=true):EL ms m=(DW ms m i).1:=by
 have e:i=ms.length:=by omega
 subst e;unfold DW at*;rw[List.take_length]at*;unfold EL;rw[if_pos hp]
theorem TC {ms:List Aa}{m:Aa}{i:Nat}(hi:i≤ms.length)(h:ms.length≤i)(hp:(DW ms m i).2=false):EL ms m=(DW ms m i).1++[m]:=by
 have e:i=ms.length:=by omega
 subst e;unfold DW at*;rw[List.take_length]at*;unfold EL;rw[if_neg (by rw[hp];simp)]
def DX (l:List Ad)(d:Ad)(i:Nat):List Ad×Bool:=(l.take i).foldl (E6 d) ([],false)
theorem Ks (l:List Ad)(d:Ad):DX l d 0=([],false):=rfl
theorem Gd {l:List Ad}{d x:Ad}{i:Nat}(hx:l[i]? =some x):DX l d (i+1)=E6 d (DX l d i) x:=Gb hx
theorem Jf (l : List Ad) (d : Ad) (i : Nat) (hi : i ≤ l.length) : (DX l d i).1.length ≤ 2 * i := by
  induction i with
  | zero => rw [Ks]; simp
  | succ i ih =>
    have := ih Zo
    rw [Gd (List.getElem?_eq_getElem (show i < l.length by omega)), E6]
    split <;> simp <;> omega
theorem Rz {l:List Ad}{d:Ad}{i:Nat}(hi:i≤l.length)(h:l.length≤i)(hp:(DX l d i).2=true):Fr l d=(DX l d i).1:=by
 have e:i=l.length:=by omega
 subst e;unfold DX at*;rw[List.take_length]at*;unfold Fr;rw[if_pos hp]
theorem TD {l:List Ad}{d:Ad}{i:Nat}(hi:i≤l.length)(h:l.length≤i)(hp:(DX l d i).2=false):Fr l d=(DX l d i).1++[d]:=by
 have e:i=l.length:=by omega
 subst e;unfold DX at*;rw[List.take_length]at*;unfold Fr;rw[if_neg (by rw[hp];simp)]
theorem D3.at {M l:List Aa}{i:Nat}{m:Aa}(h:D3 l (M.take i))(hm:M[i]? =some m)(hp:1≤m.count):D3 (EL l m) (M.take (i+1)):=by
 obtain⟨hi,rfl⟩:=List.getElem?_eq_some_iff.1 hm
 rw[List.take_succ_eq_append_getElem hi];exact h.step hp
theorem D4.at {D l:List Ad}{i:Nat}{d:Ad}(h:D4 l (D.take i))(hd:D[i]? =some d):D4 (Fr l d) (D.take (i+1)):=by
 obtain⟨hi,rfl⟩:=List.getElem?_eq_some_iff.1 hd
 rw[List.take_succ_eq_append_getElem hi];exact h.step _
theorem AE.pos {d:Ad}(h:AE d):1≤d.count:=by unfold AE at h;omega
def ctx0 (e:Int):Int×List Aa×List Ad:=(e,[],[])
def A5 (M:List Aa)(D:List Ad):Int×List Aa×List Ad:=
 if (∃m∈M,¬AE m.d)∨(∃d∈D,¬AE d)then(1,[],[])else if 64<(Bu M D).1.length∨64<(Bu M D).2.length then(4,[],[])else(0,(Bu M D).1,(Bu M D).2)
theorem OQ {M:List Aa}{D:List Ad}{i:Nat}{m:Aa}(hm:M[i]? =some m)(h:¬AE m.d):A5 M D=(1,[],[]):=by rw[A5,if_pos (.inl ⟨m,Bc hm,h⟩)]
theorem OR {M:List Aa}{D:List Ad}{i:Nat}{d:Ad}(hd:D[i]? =some d)(h:¬AE d):A5 M D=(1,[],[]):=by rw[A5,if_pos (.inr ⟨d,Bc hd,h⟩)]
theorem Kt {M:List Aa}{D:List Ad}(hM:∀m∈M,AE m.d)(hD:∀d∈D,AE d):¬((∃m∈M,¬AE m.d)∨(∃d∈D,¬AE d)):=by
 rintro(⟨m,hm,h⟩|⟨d,hd,h⟩)
 ·exact h (hM m hm)
 ·exact h (hD d hd)
theorem NF {M ms:List Aa}{D cl:List Ad}(hM:∀m∈M,AE m.d)(hD:∀d∈D,AE d)(h:Bu M D=(ms,cl))(hl:64<ms.length∨64<cl.length):A5 M D=(4,[],[]):=by
 rw[A5,if_neg (Kt hM hD),h,if_pos hl]
theorem RC {M ms:List Aa}{D cl:List Ad}(hM:∀m∈M,AE m.d)(hD:∀d∈D,AE d)(h:Bu M D=(ms,cl))(h1:ms.length≤64)(h2:cl.length≤64):A5 M D=(0,ms,cl):=by
 rw[A5,if_neg (Kt hM hD),h,if_neg Zp]
noncomputable def Ar (ms:List Aa)(cl:List Ad)(ms':List Aa)(cl':List Ad):Int×List Aa×List Ad:=
 if B4 ms cl=true∧B4 ms' cl'=true then A5 (ms++ms') (cl++cl')else(30,[],[])
theorem Jg {ms ms':List Aa}{cl cl':List Ad}(h:¬(B4 ms cl=true∧B4 ms' cl'=true)):Ar ms cl ms' cl'=(30,[],[]):=by rw[Ar,if_neg h]
theorem CG {ms ms':List Aa}{cl cl':List Ad}(h:B4 ms cl=true)(h2:B4 ms' cl'=true):Ar ms cl ms' cl'=A5 (ms++ms') (cl++cl'):=by rw[Ar,if_pos ⟨h,h2⟩]
attribute [local irreducible] AE FC CC BS BL B2 B0 Du
attribute [local irreducible] DW DX EL Fr A5 Ar Bu
attribute [local irreducible] X
theorem Uk (am:Option Addr)(ms:List Aa)(cm:Nat)(m:Aa)(w:World)(hs:As w am ms)(hl:ms.length≤1000000):
  Calls prog 128 #[.slice am ms.length cm,.agg #[.int .i64 ((m).node),.int .i64 ((m).life),.int .i64 ((m).count)]] w (AS (fun v w'=>∃a' c',v= .slice a' (EL ms m).length c'∧Af w' 46 a' c' (EL ms m)∧(∀b,own a' b→w.heap.size≤b)∧Aq w w')):=by
 refine Ae (n:=71) func128 rfl rfl rfl ?_;refine jG ?_;refine jR<|jB ?_;intro a3 aD aq a0 aE;have:w.heap.size≤a3:=aq;clear aq;have K0:=(aE:Aq w _);refine jG ?_;refine Aj.loop (ι:=Nat) (fun i ρ' w'=>∃a':Option Addr,∃c':Nat,Holds ρ' [(3,jp a3),(5,.slice a' (((DW ms m i).1).length) c'),(6,.bool ((DW ms m i).2)),(9,.slice am ms.length cm),(10,.int .i64 ((ms.length:Nat):Int)),(11,.int .i64 ((i:Nat):Int))]∧Aq w w'∧(AA w' a3 [.int .i64 ((m).node),.int .i64 ((m).life),.int .i64 ((m).count)] 46)∧(Af w' 46 a' c' ((DW ms m i).1))∧(¬own a' a3)∧(∀q_,own a' q_→w.heap.size≤q_)∧(i≤ms.length)) (fun i=>ms.length-i) 0 ?_ ?_
 ·rw[Kr]
  have aF:=Af.nil (α:=Aa) aD 46;refine⟨_,_,⟨rfl,rfl,rfl,rfl,rfl,rfl,trivial⟩,K0,a0,aF,(Ac a3),(fun q_ h1=>absurd h1 (Ac q_)),?_⟩
  ·omega
 clear a0;clear K0;rintro i ba bb ⟨a',c',ar,K0,a0,a1,a5,a4,hi⟩ ih1;obtain⟨ρ₀,rfl⟩:=ar.ex;clear ar;refine jG ?_;refine jF ?_ ?_
 ·intro hc12
  obtain⟨bc,be,x,hx,bg,a7⟩:=hs.eo i;have hc_16_lt:=a7.lt;replace a7:=a7.ext K0;refine jG ?_;refine jR<|jA ?_;intro aG bh a6 a2 ae;have bi:=Ai a0.lt a6;have bj:=Ai a7.lt a6;have a8:=Al a1.own_lt a6;have:=Nat.le_trans K0.size a6;clear a6;refine jR<|jS a2 ?_;intro bk a2 af;replace a0:=(a0.ext ae).kp af;refine jG ?_;refine jV (AJ rfl rfl rfl) ?_;refine jG ?_;replace a1:=(a1.ext ae).keepO af (Ab a8);replace K0:=(K0.ext ae).n1 af;refine jF ?_ ?_
  ·intro hc26
   have hsl:=Je ms m i hi;refine jG ?_;refine jV (IG rfl rfl) ?_;refine jV (AC (cells:=#[.int .i64 ((x).node),.int .i64 ((x).life),.int .i64 (max ((x).count) ((m).count))]) Zk) ?_;refine jR<|Av.buildSlice ([(⟨(x).node,(x).life,max ((x).count) ((m).count)⟩:Aa)]:List Aa) underlying28 ty46 rfl rfl Ze ?_;intro bl bm aH aI a9;clear aH;replace a1:=a1.ext a9;refine jR<|Av.append (xs:=(DW ms m i).1) (ys:=([(⟨(x).node,(x).life,max ((x).count) ((m).count)⟩:Aa)]:List Aa)) underlying28 ty46 rfl rfl rfl a1 aI.sl Zr Zd ?_;intro au bn bo aJ ag ah aK;replace a0:=a0.ext a9;have aL:¬own au a3:=ah.not a5 a0.lt;replace K0:=K0.ext a9;have aM:∀q_,own au q_→w.heap.size≤q_:=ah.ge a4 K0.size;clear ah;clear aK;refine jG ?_;refine jV (At (c:=((i+1:Nat):Int)) (An rfl rfl Zo Zo) rfl) ?_;refine jG ?_;have e:=Gc (m:=m) hx;rw[E5,if_pos (by simp only[Aa.d,Ad.a,AU.mk.injEq];exact hc26)]at e;refine ih1 (i+1) _ _ ?_ Zo;rw[e];replace a2:=(a2.ext a9).keep ag a8;replace a0:=a0.keep ag a5;replace K0:=K0.new ag a4;refine⟨_,_,⟨rfl,rfl,rfl,rfl,rfl,rfl,trivial⟩,K0,a0,aJ,aL,aM,?_⟩
   ·omega
  ·intro hc26
   have hsl:=Je ms m i hi;refine jG ?_;refine jW ?_ (hx:=by exact fun hg=>(LF (cells:=#[.int .i64 ((m).node),.int .i64 ((m).life),.int .i64 0]) (Oa (v:= .int .i64 ((m).node)) (Bf hg) (Oa (v:= .int .i64 ((m).life)) (Bf hg) pnil)) Zk));refine jG ?_;refine jW ?_ (hx:=by exact fun hg=>(LF (cells:=#[.int .i64 ((x).node),.int .i64 ((x).life),.int .i64 0]) (Oa (v:= .int .i64 ((x).node)) (Bf hg) (Oa (v:= .int .i64 ((x).life)) (Bf hg) pnil)) Zk));refine RL.gcall (vals:=[.agg #[.int .i64 ((m).node),.int .i64 ((m).life),.int .i64 0],.agg #[.int .i64 ((x).node),.int .i64 ((x).life),.int .i64 0]]) (Bg rfl rfl rfl rfl) en127.h (fun hg=>(BM (Bf hg) (BM (Bf hg) EJ))) (fun hg=>(Ld (⟨(m).node,(m).life,0⟩:Ad) (⟨(x).node,(x).life,0⟩:Ad) _)) ?_;intro bp aa;refine jV (AJ rfl rfl rfl) ?_;refine jG ?_;replace a0:=a0.ext aa;replace a1:=a1.ext aa;replace a2:=a2.ext aa;replace K0:=K0.ext aa;refine jF ?_ ?_
   ·intro hc54
    refine jG ?_;refine jR<|Av.buildSlice ([m]:List Aa) underlying28 ty46 rfl rfl Ze ?_;intro bq bs aN aO ab;clear aN;replace a1:=a1.ext ab;refine jR<|Av.append (xs:=(DW ms m i).1) (ys:=([m]:List Aa)) underlying28 ty46 rfl rfl rfl a1 aO.sl Zr Zd ?_;intro ai bt bu aj ak ac aP;replace a0:=a0.ext ab;have av:¬own ai a3:=ac.not a5 a0.lt;replace a2:=a2.ext ab;have aQ:¬own ai aG:=ac.not a8 a2.lt;replace K0:=K0.ext ab;have aw:∀q_,own ai q_→w.heap.size≤q_:=ac.ge a4 K0.size;clear ac;clear aP;replace a2:=a2.keep ak a8;refine jG ?_;refine jR<|Av.buildSlice ([x]:List Aa) underlying28 ty46 rfl rfl Ze ?_;intro bv bw aR aS ad;clear aR;replace aj:=aj.ext ad;refine jR<|Av.append (xs:=((DW ms m i).1)++([m]:List Aa)) (ys:=([x]:List Aa)) underlying28 ty46 rfl rfl rfl aj aS.sl Zr Zd ?_;intro ax bx bz aT al an aU;replace a0:=(a0.keep ak a5).ext ad;have aV:¬own ax a3:=an.not av a0.lt;replace K0:=(K0.new ak a4).ext ad;have aW:∀q_,own ax q_→w.heap.size≤q_:=an.ge aw K0.size;clear an;clear aU;refine jG ?_;refine jV (At (c:=((i+1:Nat):Int)) (An rfl rfl Zo Zo) rfl) ?_;refine jG ?_;have e:=Gc (m:=m) hx;rw[E5,if_neg (by simp only[Aa.d,Ad.a,AU.mk.injEq];omega),if_pos ⟨hc54.1,by have h_:=hc54.2;unfold CC at h_;unfold BS;simp only at h_;omega⟩]at e;refine ih1 (i+1) _ _ ?_ Zo;rw[e];replace a2:=(a2.ext ad).keep al aQ;replace a0:=a0.keep al av;replace K0:=K0.new al aw;refine⟨_,_,⟨rfl,rfl,rfl,rfl,rfl,rfl,trivial⟩,K0,a0,aT,aV,aW,?_⟩
    ·omega
   ·intro hc54
    refine jG ?_;refine jR<|Av.buildSlice ([x]:List Aa) underlying28 ty46 rfl rfl Ze ?_;intro bA bB aX aY ao;clear aX;replace a1:=a1.ext ao;refine jR<|Av.append (xs:=(DW ms m i).1) (ys:=([x]:List Aa)) underlying28 ty46 rfl rfl rfl a1 aY.sl Zr Zd ?_;intro ay bC bD aZ az ap b0;replace a0:=a0.ext ao;have b1:¬own ay a3:=ap.not a5 a0.lt;replace K0:=K0.ext ao;have b2:∀q_,own ay q_→w.heap.size≤q_:=ap.ge a4 K0.size;clear ap;clear b0;refine jG ?_;refine jV (At (c:=((i+1:Nat):Int)) (An rfl rfl Zo Zo) rfl) ?_;refine jG ?_;have e:=Gc (m:=m) hx;rw[E5,if_neg (by simp only[Aa.d,Ad.a,AU.mk.injEq];omega),if_neg (fun h_=>hc54.elim (fun h2=>by rw[h_.1]at h2;cases h2) (fun h2=>h2 (by have h3:=h_.2;unfold BS at h3;unfold CC;simp only;omega)))]at e;refine ih1 (i+1) _ _ ?_ Zo;rw[e];replace a0:=a0.keep az a5;replace K0:=K0.new az a4;refine⟨_,_,⟨rfl,rfl,rfl,rfl,rfl,rfl,trivial⟩,K0,a0,aZ,b1,b2,?_⟩
    ·omega
 ·intro hc12
  have hsl:=Je ms m i hi;refine jG ?_;refine jF ?_ ?_
  ·intro hc65
   refine jG ?_;refine jR<|Av.buildSlice ([m]:List Aa) underlying28 ty46 rfl rfl Ze ?_;intro bE bF b3 b4 aA;clear b3;replace a1:=a1.ext aA;refine jR<|Av.append (xs:=(DW ms m i).1) (ys:=([m]:List Aa)) underlying28 ty46 rfl rfl rfl a1 b4.sl Zr Zd ?_;intro aB b5 bG b6 b7 aC b8;replace K0:=K0.ext aA;have b9:∀q_,own aB q_→w.heap.size≤q_:=aC.ge a4 K0.size;clear aC;clear b8;refine jG ?_;refine jJ func128 ?_;rw[TC hi Zo hc65];replace K0:=K0.new b7 a4;exact⟨_,rfl,aB,b5,rfl,b6,b9,K0⟩
  ·intro hc65
   refine jG ?_;refine jJ func128 ?_;rw[Ry hi Zo hc65];exact⟨_,rfl,a',c',rfl,a1,a4,K0⟩
theorem VW (a:Option Addr)(xs:List Ad)(c:Nat)(d:Ad)(w:World)(hs:As w a xs)(hl:xs.length≤1000000):
  Calls prog 129 #[.slice a xs.length c,.agg #[.int .i64 ((d).node),.int .i64 ((d).life),.int .i64 ((d).count)]] w (AS (fun v w'=>∃a' c',v= .slice a' (Fr xs d).length c'∧Af w' 73 a' c' (Fr xs d)∧(∀b,own a' b→w.heap.size≤b)∧Aq w w')):=by
 refine Ae (n:=41) func129 rfl rfl rfl ?_;refine jG ?_;refine jR<|jB ?_;intro a3 aC ap a0 aD;have:w.heap.size≤a3:=ap;clear ap;have K0:=(aD:Aq w _);refine jG ?_;refine Aj.loop (ι:=Nat) (fun i ρ' w'=>∃a':Option Addr,∃c':Nat,Holds ρ' [(3,jp a3),(5,.slice a' (((DX xs d i).1).length) c'),(6,.bool ((DX xs d i).2)),(9,.slice a xs.length c),(10,.int .i64 ((xs.length:Nat):Int)),(11,.int .i64 ((i:Nat):Int))]∧Aq w w'∧(AA w' a3 [.int .i64 ((d).node),.int .i64 ((d).life),.int .i64 ((d).count)] 73)∧(Af w' 73 a' c' ((DX xs d i).1))∧(¬own a' a3)∧(∀q_,own a' q_→w.heap.size≤q_)∧(i≤xs.length)) (fun i=>xs.length-i) 0 ?_ ?_
 ·rw[Ks]
  have aE:=Af.nil (α:=Ad) aC 73;refine⟨_,_,⟨rfl,rfl,rfl,rfl,rfl,rfl,trivial⟩,K0,a0,aE,(Ac a3),(fun q_ h1=>absurd h1 (Ac q_)),?_⟩
  ·omega
 clear a0;clear K0;rintro i b9 ba ⟨a',c',aq,K0,a0,a1,a5,a4,hi⟩ ih1;obtain⟨ρ₀,rfl⟩:=aq.ex;clear aq;refine jG ?_;refine jF ?_ ?_
 ·intro hc12
  obtain⟨bb,bc,x,hx,be,a7⟩:=hs.eo i;have hc_16_lt:=a7.lt;replace a7:=a7.ext K0;refine jG ?_;refine jR<|jA ?_;intro aF bg a6 a2 ae;have bh:=Ai a0.lt a6;have bi:=Ai a7.lt a6;have a8:=Al a1.own_lt a6;have:=Nat.le_trans K0.size a6;clear a6;refine jR<|jS a2 ?_;intro bj a2 af;replace a0:=(a0.ext ae).kp af;refine jG ?_;refine jV (EC Zk rfl rfl (C9 x d)) ?_;refine jG ?_;replace a1:=(a1.ext ae).keepO af (Ab a8);replace K0:=(K0.ext ae).n1 af;refine jF ?_ ?_
  ·intro hc17
   have hsl:=Jf xs d i hi;refine FJ ?_;refine jV (Bo (b:=true) rfl) ?_;refine jG ?_;refine jV (AJ (b:=false) (e:=false) rfl rfl rfl) ?_;refine jG ?_;refine Aj.condF rfl ?_;refine jG ?_;refine jR<|Av.buildSlice ([x]:List Ad) underlying29 ty73 rfl rfl Ze ?_;intro bk bl aG aH a9;clear aG;replace a1:=a1.ext a9;refine jR<|Av.append (xs:=(DX xs d i).1) (ys:=([x]:List Ad)) underlying29 ty73 rfl rfl rfl a1 aH.sl Zr Zd ?_;intro ar bm bn aI ag ah aJ;replace a0:=a0.ext a9;have aK:¬own ar a3:=ah.not a5 a0.lt;replace K0:=K0.ext a9;have aL:∀q_,own ar q_→w.heap.size≤q_:=ah.ge a4 K0.size;clear ah;clear aJ;refine jG ?_;refine jV (At (c:=((i+1:Nat):Int)) (An rfl rfl Zo Zo) rfl) ?_;refine jG ?_;have e:=Gd (d:=d) hx;rw[E6,if_neg (fun h_=>h_.1.2 hc17),decide_eq_true hc17,Bool.or_true]at e;refine ih1 (i+1) _ _ ?_ Zo;rw[e];replace a2:=(a2.ext a9).keep ag a8;replace a0:=a0.keep ag a5;replace K0:=K0.new ag a4;refine⟨_,_,⟨rfl,rfl,rfl,rfl,rfl,rfl,trivial⟩,K0,a0,aI,aK,aL,?_⟩
   ·omega
  ·intro hc17
   have hsl:=Jf xs d i hi;refine jG ?_;refine RL.gcall (vals:=[.agg #[.int .i64 ((d).node),.int .i64 ((d).life),.int .i64 ((d).count)],.agg #[.int .i64 ((x).node),.int .i64 ((x).life),.int .i64 ((x).count)]]) (Bg rfl rfl rfl rfl) en127.h (fun hg=>(BM (Bf hg) (BM (Bf hg) EJ))) (fun hg=>(Ld d x _)) ?_;intro bo aa;refine jV (AJ rfl rfl rfl) ?_;refine jG ?_;replace a0:=a0.ext aa;replace a1:=a1.ext aa;replace a2:=a2.ext aa;replace K0:=K0.ext aa;refine jF ?_ ?_
   ·intro hc24
    refine jG ?_;refine jR<|Av.buildSlice ([d]:List Ad) underlying29 ty73 rfl rfl Ze ?_;intro bp bq aM aN ab;clear aM;replace a1:=a1.ext ab;refine jR<|Av.append (xs:=(DX xs d i).1) (ys:=([d]:List Ad)) underlying29 ty73 rfl rfl rfl a1 aN.sl Zr Zd ?_;intro ai bs bt aj ak ac aO;replace a0:=a0.ext ab;have au:¬own ai a3:=ac.not a5 a0.lt;replace a2:=a2.ext ab;have aP:¬own ai aF:=ac.not a8 a2.lt;replace K0:=K0.ext ab;have av:∀q_,own ai q_→w.heap.size≤q_:=ac.ge a4 K0.size;clear ac;clear aO;replace a2:=a2.keep ak a8;refine jG ?_;refine jR<|Av.buildSlice ([x]:List Ad) underlying29 ty73 rfl rfl Ze ?_;intro bu bv aQ aR ad;clear aQ;replace aj:=aj.ext ad;refine jR<|Av.append (xs:=((DX xs d i).1)++([d]:List Ad)) (ys:=([x]:List Ad)) underlying29 ty73 rfl rfl rfl aj aR.sl Zr Zd ?_;intro aw bw bx aS al am aT;replace a0:=(a0.keep ak a5).ext ad;have aU:¬own aw a3:=am.not au a0.lt;replace K0:=(K0.new ak a4).ext ad;have aV:∀q_,own aw q_→w.heap.size≤q_:=am.ge av K0.size;clear am;clear aT;refine jG ?_;refine jV (At (c:=((i+1:Nat):Int)) (An rfl rfl Zo Zo) rfl) ?_;refine jG ?_;have e:=Gd (d:=d) hx;rw[E6,if_pos ⟨⟨hc24.1,hc17⟩,hc24.2⟩]at e;refine ih1 (i+1) _ _ ?_ Zo;rw[e];replace a2:=(a2.ext ad).keep al aP;replace a0:=a0.keep al au;replace K0:=K0.new al av;refine⟨_,_,⟨rfl,rfl,rfl,rfl,rfl,rfl,trivial⟩,K0,a0,aS,aU,aV,?_⟩
    ·omega
   ·intro hc24
    refine jG ?_;refine jR<|Av.buildSlice ([x]:List Ad) underlying29 ty73 rfl rfl Ze ?_;intro bz bA aW aX an;clear aW;replace a1:=a1.ext an;refine jR<|Av.append (xs:=(DX xs d i).1) (ys:=([x]:List Ad)) underlying29 ty73 rfl rfl rfl a1 aX.sl Zr Zd ?_;intro ax bB bC aY ay ao aZ;replace a0:=a0.ext an;have b0:¬own ax a3:=ao.not a5 a0.lt;replace K0:=K0.ext an;have b1:∀q_,own ax q_→w.heap.size≤q_:=ao.ge a4 K0.size;clear ao;clear aZ;refine jG ?_;refine jV (At (c:=((i+1:Nat):Int)) (An rfl rfl Zo Zo) rfl) ?_;refine jG ?_;have e:=Gd (d:=d) hx;rw[E6,if_neg (fun h_=>hc24.elim (fun h2=>by rw[h_.1.1]at h2;cases h2) (fun h2=>h2 h_.2)),decide_eq_false hc17,Bool.or_false]at e;refine ih1 (i+1) _ _ ?_ Zo;rw[e];replace a0:=a0.keep ay a5;replace K0:=K0.new ay a4;refine⟨_,_,⟨rfl,rfl,rfl,rfl,rfl,rfl,trivial⟩,K0,a0,aY,b0,b1,?_⟩
    ·omega
 ·intro hc12
  refine jG ?_;refine jF ?_ ?_
  ·intro hc35
   have hsl:=Jf xs d i hi;refine jG ?_;refine jR<|Av.buildSlice ([d]:List Ad) underlying29 ty73 rfl rfl Ze ?_;intro bD bE b2 b3 az;clear b2;replace a1:=a1.ext az;refine jR<|Av.append (xs:=(DX xs d i).1) (ys:=([d]:List Ad)) underlying29 ty73 rfl rfl rfl a1 b3.sl Zr Zd ?_;intro aA b4 bF b5 b6 aB b7;replace K0:=K0.ext az;have b8:∀q_,own aA q_→w.heap.size≤q_:=aB.ge a4 K0.size;clear aB;clear b7;refine jG ?_;refine jJ func129 ?_;rw[TD hi Zo hc35];replace K0:=K0.new b6 a4;exact⟨_,rfl,aA,b4,rfl,b5,b8,K0⟩
  ·intro hc35
   refine jG ?_;refine jJ func129 ?_;rw[Rz hi Zo hc35];exact⟨_,rfl,a',c',rfl,a1,a4,K0⟩
end Go.Proofs.YtjkaicjmfgekjaaGreatDoor
