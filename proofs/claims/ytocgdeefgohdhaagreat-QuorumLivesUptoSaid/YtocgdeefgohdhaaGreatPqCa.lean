/-
  Ca, Cb, Cc
-/
import Derived.Test.YtocgdeefgohdhaaGreatRows
import Derived.Test.YtocgdeefgohdhaaGreatPqWb
import Derived.Test.YtocgdeefgohdhaaGreatPqI
set_option linter.all false
set_option maxRecDepth 100000
set_option maxHeartbeats 4000000
namespace Go.Proofs.YtocgdeefgohdhaaGreat
open Go.Proofs.Tryz
attribute [local irreducible] RD RS AD RL RA RT BH Al
structure AZ where
 node:Int
 life:Int
instance : Enc AZ:=Enc.struct (fun t=>[.int .i64 t.node,.int .i64 t.life]) 2 (fun _=>rfl) (fun _ v hv=>by simp at hv;rcases hv with rfl|rfl<;>rfl) Zd
theorem AZ.ext' {a b:AZ}(h0:a.node=b.node)(h1:a.life=b.life):a=b:=by cases a;cases b;simp_all
instance : DecidableEq AZ:=fun a b=>if h:a.node=b.node∧a.life=b.life then isTrue (AZ.ext' h.1 h.2)else isFalse (fun e=>h (by subst e;exact⟨rfl,rfl⟩))
theorem LJ (m:Nat)(a b:AZ)(w:World):(Op.equalIn (m+2) 165 (.agg #[.int .i64 a.node,.int .i64 a.life]) (.agg #[.int .i64 b.node,.int .i64 b.life])).run prog w= .ok (decide (a=b)) w:=by
 have h:=run_equalIn_struct (P:=prog) w (m+1) 165 #[.int .i64 a.node,.int .i64 a.life] #[.int .i64 b.node,.int .i64 b.life] underlying165 Zk
 have h2:=(Ax (P:=prog) (d:=m+1) (xs:=#[.int .i64 a.node,.int .i64 a.life]) (ys:=#[.int .i64 b.node,.int .i64 b.life]) (fd:=(prog.fieldsOf 165).toList[0]) (fs:=[(prog.fieldsOf 165).toList[1]]) (r:=a.node==b.node) Zk (AH ty3 rfl) (AH ty3 rfl) (fun w=>run_equalIn_int w m 3 .i64 .i64 a.node b.node underlying3) (Ax (P:=prog) (d:=m+1) (xs:=#[.int .i64 a.node,.int .i64 a.life]) (ys:=#[.int .i64 b.node,.int .i64 b.life]) (fd:=(prog.fieldsOf 165).toList[1]) (fs:=[]) (r:=a.life==b.life) Zk (AH ty3 rfl) (AH ty3 rfl) (fun w=>run_equalIn_int w m 3 .i64 .i64 a.life b.life underlying3) (BC (m+1) _ _))) w
 refine h.trans (h2.trans ?_)
 congr 1
 rw[Bool.eq_iff_iff]
 simp only[Bool.and_eq_true,beq_iff_eq,and_true,decide_eq_true_eq,CW]
 exact⟨fun h=>AZ.ext' h.1 h.2,fun h=>by subst h;exact⟨rfl,rfl⟩⟩
theorem Ja (a b:AZ)(w:World):(Op.equalIn 10000 165 (.agg #[.int .i64 a.node,.int .i64 a.life]) (.agg #[.int .i64 b.node,.int .i64 b.life])).run prog w= .ok (decide (a=b)) w:=LJ 9998 a b w
def FW (d:Ah):Prop:=(0≤d.node∧d.node≤4611686018427387904)∧(0≤d.life∧d.life≤4611686018427387904)∧(0≤d.count∧d.count≤4611686018427387904)
def AO (d:Ah):Prop:=(0≤d.node∧d.node<8)∧(1≤d.life∧d.life≤1099511627776)∧(1≤d.count∧d.count≤1099511627776)
instance : DecidablePred AO:=fun d=>by unfold AO;infer_instance
theorem AO.sm {d:Ah}(h:AO d):FW d:=by unfold AO at h;unfold FW;omega
abbrev Ac.d (m:Ac):Ah:=⟨m.node,m.life,m.count⟩
abbrev Ah.m (d:Ah):Ac:=⟨d.node,d.life,d.count⟩
abbrev Ac.z (m:Ac):Ah:=⟨m.node,m.life,0⟩
abbrev Ah.a (d:Ah):AZ:=⟨d.node,d.life⟩
theorem AO.z {m:Ac}(h:AO m.d):FW m.z:=by simp only[AO,Ac.d,FW,Ac.z]at*;omega
def B9 (a b:Ah):Int:=if a.node=b.node then(if a.life=b.life then a.count-b.count else a.life-b.life)else a.node-b.node
def CK (a b:Ah):Prop:=a.node<b.node∨a.node=b.node∧(a.life<b.life∨a.life=b.life∧a.count<b.count)
instance (a b:Ah):Decidable (CK a b):=by unfold CK;infer_instance
def Ca (a b:Ac):Prop:=a.node<b.node∨a.node=b.node∧a.life<b.life
instance (a b:Ac):Decidable (Ca a b):=by unfold Ca;infer_instance
theorem Ah.eta {a b:Ah}(h1:a.node=b.node)(h2:a.life=b.life)(h3:a.count=b.count):a=b:=by cases a;cases b;simp_all
theorem DD {a b:Ah}:B9 a b<0↔CK a b:=by
 unfold B9 CK
 split
 ·split<;>constructor<;>omega
 ·constructor<;>omega
theorem MC {a b:Ah}:0≤B9 a b↔¬CK a b:=by rw[←DD];omega
theorem MD {a b:Ah}:B9 a b=0↔a=b:=by
 constructor
 ·intro h;unfold B9 at h;split at h
  ·split at h
   ·exact Ah.eta Zo Zo Zo
   ·omega
  ·omega
 ·rintro rfl;simp[B9]
theorem OE {a b:Ac}:0≤B9 a.z b.z↔¬Ca a b:=by rw[MC];simp only[CK,Ca,Ac.z];omega
theorem EP {a b c:Ah}(h1:CK a b)(h2:CK b c):CK a c:=by unfold CK at*;omega
theorem JJ {a:Ah}:¬CK a a:=by unfold CK;omega
theorem HB {a b:Ah}(h:¬CK a b)(h2:¬CK b a):a=b:=by unfold CK at*;exact Ah.eta Zo Zo Zo
theorem Cy {a b c:Ac}(h1:Ca a b)(h2:Ca b c):Ca a c:=by unfold Ca at*;omega
theorem JK {a:Ac}:¬Ca a a:=by unfold Ca;omega
def B1 (ms:List Ac)(a:AZ):Int:=match ms.find? (fun m=>decide (m.d.a=a))with|some m=>m.count|none=>0
theorem OF {ms:List Ac}{a:AZ}{i:Nat}{m:Ac}(hx:ms[i]? =some m)(ha:m.d.a=a)(hno:Ep (fun m=>decide (m.d.a=a)) ms i):B1 ms a=m.count:=by
 have:ms.find? (fun m=>decide (m.d.a=a))=some m:=by
  rw[List.find?_eq_some_iff_getElem]
  obtain⟨hi,rfl⟩:=List.getElem?_eq_some_iff.1 hx
  exact⟨decide_eq_true ha,i,hi,rfl,fun j hj=>by
   have h:=hno j _ hj (List.getElem?_eq_getElem Zo)
   have h':¬(ms[j].d.a=a):=of_decide_eq_false h
   simp[h']⟩
 rw[B1,this]
theorem OG {ms:List Ac}{a:AZ}{i:Nat}(hno:Ep (fun m=>decide (m.d.a=a)) ms i)(hi:ms.length≤i):B1 ms a=0:=by
 have:ms.find? (fun m=>decide (m.d.a=a))=none:=by
  rw[List.find?_eq_none]
  intro x hx
  obtain⟨j,hj,rfl⟩:=List.getElem_of_mem hx
  have h:=hno j _ Zo (List.getElem?_eq_getElem hj)
  simp only at h
  simp[h]
 rw[B1,this]
def Re (ms:List Ac)(i:Nat):Prop:=∀m,ms[i]? =some m→AO m.d∧(0<i→∀x,ms[i-1]? =some x→Ca x m)
def Sj (ms:List Ac)(cl:List Ah)(i:Nat):Prop:=∀d,cl[i]? =some d→AO d∧(0<i→∀x,cl[i-1]? =some x→CK x d)∧B1 ms d.a+1<d.count
def EC (ms:List Ac)(cl:List Ah):Prop:=ms.length≤64∧cl.length≤64∧(∀i,Re ms i)∧∀i,Sj ms cl i
open Classical in
noncomputable def Cr (ms:List Ac)(cl:List Ah):Bool:=decide (EC ms cl)
theorem C0 {ms:List Ac}{cl:List Ah}:Cr ms cl=true↔EC ms cl:=by simp[Cr]
theorem C5 {ms:List Ac}{cl:List Ah}(h:¬EC ms cl):Cr ms cl=false:=by simp[Cr,h]
theorem Ku {ms:List Ac}{cl:List Ah}(h:EC ms cl):Cr ms cl=true:=C0.2 h
def CP (ms:List Ac)(cl:List Ah)(d:Ah):Prop:=(1≤d.count∧d.count≤B1 ms d.a)∨(1≤d.count∧d∈cl)
instance (ms :List Ac)(cl:List Ah)(d:Ah):Decidable (CP ms cl d):=by unfold CP;infer_instance
section
variable {ms :List Ac}{cl:List Ah}{i:Nat}{m x:Ac}{d y:Ah}
theorem EC.may (h:EC ms cl)(hm:m∈ms):AO m.d:=by
 obtain⟨j,hj,rfl⟩:=List.getElem_of_mem hm
 exact(h.2.2.1 j _ (List.getElem?_eq_getElem hj)).1
theorem EC.mayC (h:EC ms cl)(hd:d∈cl):AO d:=by
 obtain⟨j,hj,rfl⟩:=List.getElem_of_mem hd
 exact(h.2.2.2 j _ (List.getElem?_eq_getElem hj)).1
theorem D5 {a:AZ}(h:B1 ms a≠0):∃m∈ms,m.d.a=a∧m.count=B1 ms a:=by
 unfold B1 at*
 split at h
 ·rename_i m hm
  exact⟨m,List.mem_of_find?_eq_some hm,by simpa using List.find?_some hm,by simp⟩
 ·exact absurd rfl h
theorem Qk {a:AZ}(h:EC ms cl):0≤B1 ms a∧B1 ms a≤1099511627776:=by
 by_cases hz:B1 ms a=0
 ·omega
 ·obtain⟨m,hm,-,e⟩:=D5 hz
  have:=h.may hm
  simp only[AO,Ac.d]at this
  omega
theorem EC.cov (h:EC ms cl)(hd:CP ms cl d):AO d:=by
 rcases hd with⟨h1,h2⟩|⟨-,hd⟩
 ·obtain⟨m,hm,ha,e⟩:=D5 (ms:=ms) (a:=d.a) Zo
  have:=h.may hm
  simp only[AO,Ac.d,Ah.a,AZ.mk.injEq]at*
  omega
 ·exact h.mayC hd
theorem covers_ite :(decide (1≤d.count)&&(decide (d.count≤B1 ms d.a)||cl.any (d==·)))=decide (CP ms cl d):=by
 rw[Bool.eq_iff_iff,Bool.and_eq_true,Bool.or_eq_true,decide_eq_true_eq,decide_eq_true_eq,decide_eq_true_eq,List.any_eq_true]
 simp only[CP,beq_iff_eq]
 constructor
 ·rintro⟨h1,h2|⟨x,hx,rfl⟩⟩
  ·exact .inl ⟨h1,h2⟩
  ·exact .inr ⟨h1,hx⟩
 ·rintro(⟨h1,h2⟩|⟨h1,h2⟩)
  ·exact⟨h1,.inl h2⟩
  ·exact⟨h1,.inr ⟨d,h2,rfl⟩⟩
end
def D6 (ms:List Ac)(cl:List Ah)(d:Ah):Prop:=(1≤d.count∧d.count≤B1 ms d.a)∨d∈cl
instance (ms :List Ac)(cl:List Ah)(d:Ah):Decidable (D6 ms cl d):=by unfold D6;infer_instance
theorem Ql {cl:List Ah}{d:Ah}{i:Nat}(hno:Ep (fun x=>decide (x=d)) cl i)(hi:cl.length≤i):¬d∈cl:=fun h=>by
 obtain⟨j,hj,rfl⟩:=List.getElem_of_mem h
 have h:=hno j _ Zo (List.getElem?_eq_getElem hj)
 simp at h
theorem EC.covR {ms:List Ac}{cl:List Ah}{d:Ah}(h:EC ms cl):D6 ms cl d↔CP ms cl d:=by
 unfold D6 CP
 constructor
 ·rintro(h1|h1)
  ·exact .inl h1
  ·exact .inr ⟨(h.mayC h1).2.2.1,h1⟩
 ·rintro(h1|h1)
  ·exact .inl h1
  ·exact .inr h1.2
attribute [local irreducible] X
theorem RG (n:Int)(w:World):
  Calls prog 109 #[.int .i64 n] w (AU (fun v w'=>v= .bool (decide (0≤n)&&decide (n<8))∧As w w')):=by
 refine Af (n:=9) func109 rfl rfl rfl ?_;refine jG ?_;refine jV (AN rfl rfl rfl) ?_;refine jG ?_;refine jJ func109 ?_;exact⟨_,rfl,rfl,(Ao.refl _ w)⟩
theorem RH (n:Int)(w:World):
  Calls prog 110 #[.int .i64 n] w (AU (fun v w'=>v= .bool (decide (1≤n)&&decide (n≤1099511627776))∧As w w')):=by
 refine Af (n:=9) func110 rfl rfl rfl ?_;refine jG ?_;refine jV (AN rfl rfl rfl) ?_;refine jG ?_;refine jJ func110 ?_;exact⟨_,rfl,rfl,(Ao.refl _ w)⟩
theorem Qm (n:Int)(w:World):
  Calls prog 111 #[.int .i64 n] w (AU (fun v w'=>v= .bool (decide (1≤n)&&decide (n≤1099511627776))∧As w w')):=by
 refine Af (n:=9) func111 rfl rfl rfl ?_;refine jG ?_;refine jV (AN rfl rfl rfl) ?_;refine jG ?_;refine jJ func111 ?_;exact⟨_,rfl,rfl,(Ao.refl _ w)⟩
theorem Ny (d:Ah)(w:World):
  Calls prog 96 #[.agg #[.int .i64 ((d).node),.int .i64 ((d).life),.int .i64 ((d).count)]] w (AU (fun v w'=>v= .bool (decide (AO d))∧As w w')):=by
 refine Af (n:=16) func96 rfl rfl rfl ?_;refine jG ?_;refine jR<|jB ?_;intro a4 a7 a1 a0 a5;have:w.heap.size≤a4:=a1;clear a1;have K0:=(a5:As w _);refine jG ?_;refine jR<|jC (RG ((d).node) _) ?_;rintro _ a8 ⟨rfl,a2⟩;replace a0:=a0.ext a2;refine jG ?_;refine RL.gcall (vals:=[.int .i64 ((d).life)]) (A8 rfl rfl rfl rfl) en110.h (fun hg=>(Bm (Bh hg) Di)) (fun hg=>(RH ((d).life) _)) ?_;intro a9 a3;refine jV (AN rfl rfl rfl) ?_;replace a0:=a0.ext a3;refine jG ?_;refine RL.gcall (vals:=[.int .i64 ((d).count)]) (A8 rfl rfl rfl rfl) en111.h (fun hg=>(Bm (Bh hg) Di)) (fun hg=>(Qm ((d).count) _)) ?_;intro aa a6;refine jV (AN rfl rfl rfl) ?_;refine jG ?_;refine jJ func96 ?_;replace K0:=((K0.ext a2).ext a3).ext a6;exact⟨_,rfl,congrArg Value.bool (by rw[Bool.eq_iff_iff];simp only[AO,Bool.and_eq_true,decide_eq_true_eq,and_assoc]),K0⟩
theorem ME (d:Ah)(w:World):
  Calls prog 73 #[.agg #[.int .i64 ((d).node),.int .i64 ((d).life),.int .i64 ((d).count)]] w (AU (fun v w'=>v= .bool (decide (AO d))∧As w w')):=by
 refine Af (n:=31) func73 rfl rfl rfl ?_;refine jG ?_;refine jR<|jB ?_;intro a1 a3 a0 a4 a2;have:w.heap.size≤a1:=a0;clear a0;have K0:=(a2:As w _);refine jG ?_;refine jV (AN rfl rfl rfl) ?_;refine jG ?_;refine jV (AN rfl rfl rfl) ?_;refine jG ?_;refine jV (AN rfl rfl rfl) ?_;refine jG ?_;refine jV (AN rfl rfl rfl) ?_;refine jG ?_;refine jV (AN rfl rfl rfl) ?_;refine jG ?_;refine jJ func73 ?_;exact⟨_,rfl,congrArg Value.bool (by rw[Bool.eq_iff_iff];simp only[AO,Bool.and_eq_true,decide_eq_true_eq,and_assoc]),K0⟩
theorem G3 (m:Ac)(w:World):
  Calls prog 97 #[.agg #[.int .i64 ((m).node),.int .i64 ((m).life),.int .i64 ((m).count)]] w (AU (fun v w'=>v= .agg #[.int .i64 ((m.d).node),.int .i64 ((m.d).life),.int .i64 ((m.d).count)]∧As w w')):=by
 refine Af (n:=4) func97 rfl rfl rfl ?_;refine jG ?_;refine jR<|jB ?_;intro a5 a8 a3 a0 a6;have:w.heap.size≤a5:=a3;clear a3;have K0:=(a6:As w _);refine jR<|jA ?_;intro a9 aa a1 a2 a4;have ab:=Aj a0.lt a1;have:=Nat.le_trans K0.size a1;clear a1;replace a0:=a0.ext a4;refine jG ?_;refine jR<|jS a2 ?_;intro ac a2 a7;refine jG ?_;refine Al.retC (cs:=#[.int .i64 ((m).node),.int .i64 ((m).life),.int .i64 ((m).count)]) func97 rfl ty87 rfl rfl a2.cl ?_;replace K0:=(K0.ext a4).n1 a7;exact⟨_,rfl,rfl,K0⟩
theorem Fw (d:Ah)(w:World):
  Calls prog 100 #[.agg #[.int .i64 ((d).node),.int .i64 ((d).life),.int .i64 ((d).count)]] w (AU (fun v w'=>v= .agg #[.int .i64 ((d.a).node),.int .i64 ((d.a).life)]∧As w w')):=by
 refine Af (n:=8) func100 rfl rfl rfl ?_;refine jG ?_;refine jR<|jB ?_;intro a5 a8 a3 a0 a6;have:w.heap.size≤a5:=a3;clear a3;have K0:=(a6:As w _);refine jR<|jA ?_;intro a9 aa a1 a2 a4;have ab:=Aj a0.lt a1;have:=Nat.le_trans K0.size a1;clear a1;replace a0:=a0.ext a4;refine jG ?_;refine jV (Ar (cells:=#[.int .i64 ((d).node),.int .i64 ((d).life)]) Zk) ?_;refine jR<|jS a2 ?_;intro ac a2 a7;refine jG ?_;refine Al.retC (cs:=#[.int .i64 ((d).node),.int .i64 ((d).life)]) func100 rfl ty165 rfl rfl a2.cl ?_;replace K0:=(K0.ext a4).n1 a7;exact⟨_,rfl,rfl,K0⟩
theorem OH (m:Ac)(w:World):
  Calls prog 72 #[.agg #[.int .i64 ((m).node),.int .i64 ((m).life),.int .i64 ((m).count)]] w (AU (fun v w'=>v= .bool (decide (AO m.d))∧As w w')):=by
 refine Af (n:=5) func72 rfl rfl rfl ?_;refine jG ?_;refine jR<|jB ?_;intro a1 a4 a0 a5 a2;have:w.heap.size≤a1:=a0;clear a0;have K0:=(a2:As w _);refine jG ?_;refine jR<|jC (ME (Ac.d m) _) ?_;rintro _ a6 ⟨rfl,a3⟩;refine jG ?_;refine jJ func72 ?_;replace K0:=K0.ext a3;exact⟨_,rfl,rfl,K0⟩
theorem LK (a b:Ah)(w:World)(ha:FW a)(hb:FW b):
  Calls prog 98 #[.agg #[.int .i64 ((a).node),.int .i64 ((a).life),.int .i64 ((a).count)],.agg #[.int .i64 ((b).node),.int .i64 ((b).life),.int .i64 ((b).count)]] w (AU (fun v w'=>v= .int .i64 (B9 a b)∧As w w')):=by
 obtain⟨ha1,ha2,ha3⟩:=ha;obtain⟨hb1,hb2,hb3⟩:=hb;refine Af (n:=32) func98 rfl rfl rfl ?_;refine jG ?_;refine jR<|jB ?_;intro a4 a6 a2 a0 a5;have:w.heap.size≤a4:=a2;clear a2;have K0:=(a5:As w _);refine jR<|jB ?_;intro a7 a8 a1 a9 a3;have aa:=Aj a0.lt a1;have:=Nat.le_trans K0.size a1;clear a1;replace a0:=a0.ext a3;refine jG ?_;replace K0:=K0.ext a3;refine jF ?_ ?_
 ·intro hc5
  refine jG ?_;refine jV (B6 rfl rfl Zo Zo) ?_;refine jG ?_;refine jJ func98 ?_;exact⟨_,rfl,by rw[B9,if_neg hc5],K0⟩
 ·intro hc5
  refine jG ?_;refine jF ?_ ?_
  ·intro hc16
   refine jG ?_;refine jV (B6 rfl rfl Zo Zo) ?_;refine jG ?_;refine jJ func98 ?_;exact⟨_,rfl,by rw[B9,if_pos hc5,if_neg hc16],K0⟩
  ·intro hc16
   refine jG ?_;refine jV (B6 rfl rfl Zo Zo) ?_;refine jG ?_;refine jJ func98 ?_;exact⟨_,rfl,by rw[B9,if_pos hc5,if_pos hc16],K0⟩
theorem JL (a b:Ah)(w:World):
  Calls prog 74 #[.agg #[.int .i64 ((a).node),.int .i64 ((a).life),.int .i64 ((a).count)],.agg #[.int .i64 ((b).node),.int .i64 ((b).life),.int .i64 ((b).count)]] w (AU (fun v w'=>v= .bool (decide (CK a b))∧As w w')):=by
 refine Af (n:=30) func74 rfl rfl rfl ?_;refine jG ?_;refine jR<|jB ?_;intro a4 a6 a2 a0 a5;have:w.heap.size≤a4:=a2;clear a2;have K0:=(a5:As w _);refine jR<|jB ?_;intro a7 a8 a1 a9 a3;have aa:=Aj a0.lt a1;have:=Nat.le_trans K0.size a1;clear a1;replace a0:=a0.ext a3;refine jG ?_;replace K0:=K0.ext a3;refine jF ?_ ?_
 ·intro hc9
  refine jG ?_;refine jJ func74 ?_;exact⟨_,rfl,congrArg Value.bool (by rw[decide_eq_decide];unfold CK;omega),K0⟩
 ·intro hc9
  refine jG ?_;refine jF ?_ ?_
  ·intro hc19
   refine jG ?_;refine jJ func74 ?_;exact⟨_,rfl,congrArg Value.bool (by rw[decide_eq_decide];unfold CK;omega),K0⟩
  ·intro hc19
   refine jG ?_;refine jJ func74 ?_;exact⟨_,rfl,congrArg Value.bool (by rw[decide_eq_decide];unfold CK;omega),K0⟩
theorem Kv (am:Option Addr)(ms:List Ac)(cm:Nat)(ac:Option Addr)(cl:List Ah)(cc:Nat)(a:AZ)(w:World)(hs:At w am ms)(ht:At w ac cl)(hl:ms.length≤4294967295)(hl2:cl.length≤4294967295):
  Calls prog 99 #[.agg #[.slice am ms.length cm,.slice ac cl.length cc],.agg #[.int .i64 ((a).node),.int .i64 ((a).life)]] w (AU (fun v w'=>v= .int .i64 (B1 ms a)∧As w w')):=by
 refine Af (n:=22) func99 rfl rfl rfl ?_;refine jG ?_;refine jR<|jB ?_;intro ab ai ad a1 ah;have:w.heap.size≤ab:=ad;clear ad;have K0:=(ah:As w _);refine jR<|jB ?_;intro ae aj a8 a0 af;have ak:=Aj a1.lt a8;have:=Nat.le_trans K0.size a8;clear a8;replace a1:=a1.ext af;refine jG ?_;replace K0:=K0.ext af;refine Al.loop (ι:=Nat) (fun i ρ' w'=>AG ρ' [(3,jp ae),(8,.slice am ms.length cm),(9,.int .i64 ((ms.length:Nat):Int)),(10,.int .i64 ((i:Nat):Int))]∧As w w'∧(AI w' ab [.slice am ms.length cm,.slice ac cl.length cc] 27)∧(AI w' ae [.int .i64 ((a).node),.int .i64 ((a).life)] 165)∧(i≤ms.length)∧(Ep (fun m=>decide (m.d.a=a)) ms i)) (fun i=>ms.length-i) 0 ?_ ?_
 ·refine⟨⟨rfl,rfl,rfl,rfl,trivial⟩,K0,a1,a0,?_,?_⟩
  ·omega
  ·exact Ep.zero _ _
 clear a1 a0;clear K0;rintro i al an ⟨ag,K0,a1,a0,hi,hno⟩ ih1;obtain⟨ρ₀,rfl⟩:=ag.ex;clear ag;refine jG ?_;refine jF ?_ ?_
 ·intro hc11
  obtain⟨ao,ap,m,hx,aq,a4⟩:=hs.eo i;have hc_18_lt:=a4.lt;replace a4:=a4.ext K0;refine jG ?_;refine jR<|jA ?_;intro ar au a3 a2 a9;have av:=Aj a1.lt a3;have aw:=Aj a0.lt a3;have ax:=Aj a4.lt a3;have:=Nat.le_trans K0.size a3;clear a3;refine jR<|jS a2 ?_;intro ay a2 aa;refine jG ?_;refine Al.drawS [] [1000,1003,2001,2002,4] ?_;intro az a5;replace a0:=((a0.ext a9).kp aa).ext a5;replace a2:=a2.ext a5;refine jM (jb a0 (jb a2 Jn)) ?_;refine jG ?_;refine jU rfl<|jC (G3 m _) ?_;rintro _ aA ⟨rfl,a6⟩;replace a0:=a0.ext a6;replace a2:=a2.ext a6;refine jG ?_;refine jU rfl<|jC (Fw (Ac.d m) _) ?_;rintro _ aB ⟨rfl,a7⟩;replace a0:=a0.ext a7;replace a2:=a2.ext a7;refine jG ?_;refine jP ?_ (hx:=by exact fun _=>(Ev Zk rfl rfl (Ja (Ah.a (Ac.d m)) a)));refine jG ?_;replace a1:=((((a1.ext a9).kp aa).ext a5).ext a6).ext a7;replace K0:=((((K0.ext a9).n1 aa).ext a5).ext a6).ext a7;refine jF ?_ ?_
  ·intro hc18
   refine jG ?_;refine jJ func99 ?_;exact⟨_,rfl,by rw[OF hx hc18 hno],K0⟩
  ·intro hc18
   refine jG ?_;refine jV (Ay (c:=((i+1:Nat):Int)) (Aq rfl rfl Zo Zo) rfl) ?_;refine jG ?_;refine ih1 (i+1) _ _ ?_ Zo;refine⟨⟨rfl,rfl,rfl,rfl,trivial⟩,K0,a1,a0,?_,?_⟩
   ·omega
   ·exact hno.step hx (decide_eq_false hc18)
 ·intro hc11
  refine jG ?_;refine jJ func99 ?_;exact⟨_,rfl,by rw[OG hno Zo],K0⟩
theorem JM (am:Option Addr)(ms:List Ac)(cm:Nat)(n l:Int)(w:World)(hs:At w am ms)(hl:ms.length≤4294967295):
  Calls prog 49 #[.slice am ms.length cm,.int .i64 n,.int .i64 l] w (AU (fun v w'=>v= .int .i64 (B1 ms ⟨n,l⟩)∧As w w')):=by
 refine Af (n:=28) func49 rfl rfl rfl ?_;refine jG ?_;refine Al.loop (ι:=Nat) (fun i ρ' w'=>AG ρ' [(1,.int .i64 n),(2,.int .i64 l),(9,.slice am ms.length cm),(10,.int .i64 ((ms.length:Nat):Int)),(11,.int .i64 ((i:Nat):Int))]∧As w w'∧(i≤ms.length)∧(Ep (fun m=>decide (m.d.a=⟨n,l⟩)) ms i)) (fun i=>ms.length-i) 0 ?_ ?_
 ·refine⟨⟨rfl,rfl,rfl,rfl,rfl,trivial⟩,(Ao.refl _ w),?_,?_⟩
  ·omega
  ·exact Ep.zero _ _
 rintro i a6 a7 ⟨a2,K0,hi,hno⟩ ih1;obtain⟨ρ₀,rfl⟩:=a2.ex;clear a2;refine jG ?_;refine jF ?_ ?_
 ·intro hc12
  obtain⟨a8,a9,m,hx,aa,a0⟩:=hs.eo i;have hc_7_lt:=a0.lt;replace a0:=a0.ext K0;refine jG ?_;refine jR<|jA ?_;intro ab ac a1 a3 a4;have ad:=Aj a0.lt a1;have:=Nat.le_trans K0.size a1;clear a1;refine jR<|jS a3 ?_;intro ae a3 a5;refine jG ?_;refine jV (AN rfl rfl rfl) ?_;refine jG ?_;replace K0:=(K0.ext a4).n1 a5;refine jF ?_ ?_
  ·intro hc24
   refine jG ?_;refine jJ func49 ?_;exact⟨_,rfl,by rw[OF hx (by simp only[Ac.d,Ah.a,AZ.mk.injEq];exact hc24) hno],K0⟩
  ·intro hc24
   refine jG ?_;refine jV (Ay (c:=((i+1:Nat):Int)) (Aq rfl rfl Zo Zo) rfl) ?_;refine jG ?_;refine ih1 (i+1) _ _ ?_ Zo;refine⟨⟨rfl,rfl,rfl,rfl,rfl,trivial⟩,K0,?_,?_⟩
   ·omega
   ·exact hno.step hx (decide_eq_false (by simp only[Ac.d,Ah.a,AZ.mk.injEq];omega))
 ·intro hc12
  refine jG ?_;refine jJ func49 ?_;exact⟨_,rfl,by rw[OG hno Zo],K0⟩
theorem Qn (a:Option Addr)(xs:List Ah)(c:Nat)(x:Ah)(w:World)(hs:At w a xs)(hl:xs.length≤4294967295):
  Calls prog 122 #[.slice a xs.length c,.agg #[.int .i64 ((x).node),.int .i64 ((x).life),.int .i64 ((x).count)]] w (AU (fun v w'=>v= .int .i64 (FV (x==·) xs)∧As w w')):=by
 refine Af (n:=19) func122 rfl rfl rfl ?_;refine jG ?_;refine jR<|jB ?_;intro a1 a7 a4 a0 a6;have:w.heap.size≤a1:=a4;clear a4;have K0:=(a6:As w _);refine jG ?_;refine Al.loop (ι:=Nat) (fun i ρ' w'=>AG ρ' [(0,.slice a xs.length c),(3,jp a1),(7,.int .i64 ((xs.length:Nat):Int)),(8,.int .i64 ((i:Nat):Int))]∧As w w'∧(AI w' a1 [.int .i64 ((x).node),.int .i64 ((x).life),.int .i64 ((x).count)] 87)∧(i≤xs.length)∧(Ep (x==·) xs i)) (fun i=>xs.length-i) 0 ?_ ?_
 ·refine⟨⟨rfl,rfl,rfl,rfl,trivial⟩,K0,a0,?_,?_⟩
  ·omega
  ·exact Ep.zero _ _
 clear a0;clear K0;rintro i a8 a9 ⟨a5,K0,a0,hi,hno⟩ ih1;obtain⟨ρ₀,rfl⟩:=a5.ex;clear a5;refine jG ?_;refine jF ?_ ?_
 ·intro hc9
  refine jG ?_;obtain⟨aa,ab,e,hx,ac,a2⟩:=hs.eo i;have hc_14_lt:=a2.lt;refine Al.drawR ?_;intro ad a3;replace a2:=(a2.ext K0).ext a3;replace a0:=a0.ext a3;refine jG ?_;refine jD (Ev Zk rfl rfl (CF x e)) ?_;refine jG ?_;replace K0:=K0.ext a3;refine jF ?_ ?_
  ·intro hc16
   refine jG ?_;refine jJ func122 ?_;exact⟨_,rfl,by rw[Gp hx (by simpa using hc16) hno],K0⟩
  ·intro hc16
   refine jG ?_;refine jV (Ay (c:=((i+1:Nat):Int)) (Aq rfl rfl Zo Zo) rfl) ?_;refine jG ?_;refine ih1 (i+1) _ _ ?_ Zo;refine⟨⟨rfl,rfl,rfl,rfl,trivial⟩,K0,a0,?_,?_⟩
   ·omega
   ·exact hno.step hx (by simpa using hc16)
 ·intro hc9
  refine jG ?_;refine jJ func122 ?_;exact⟨_,rfl,by rw[Gq hno Zo],K0⟩
theorem H7 (a:Option Addr)(xs:List Ah)(c:Nat)(x:Ah)(w:World)(hs:At w a xs)(hl:xs.length≤4294967295):
  Calls prog 116 #[.slice a xs.length c,.agg #[.int .i64 ((x).node),.int .i64 ((x).life),.int .i64 ((x).count)]] w (AU (fun v w'=>v= .bool (xs.any (x==·))∧As w w')):=by
 refine Af (n:=9) func116 rfl rfl rfl ?_;refine jG ?_;refine jR<|jB ?_;intro a1 a4 a0 a5 a2;have:w.heap.size≤a1:=a0;clear a0;have K0:=(a2:As w _);refine jG ?_;refine jR<|jC (Qn _ _ _ x _ (hs.ext K0) Zo) ?_;rintro _ a6 ⟨rfl,a3⟩;refine jG ?_;refine jJ func116 ?_;replace K0:=K0.ext a3;exact⟨_,rfl,by rw[Gs],K0⟩
theorem MF (a:Option Addr)(xs:List Ah)(c:Nat)(d:Option Addr)(ys:List Ah)(e:Nat)(w:World)(hs:At w a xs)(ht:At w d ys)(hl:xs.length≤4294967295):
  Calls prog 92 #[.slice a xs.length c,.slice d ys.length e] w (AU (fun v w'=>v= .bool (decide (xs=ys))∧As w w')):=by
 refine Af (n:=26) func92 rfl rfl rfl ?_;refine jG ?_;refine jF ?_ ?_
 ·intro hc10
  refine jG ?_;refine jJ func92 ?_;exact⟨_,rfl,by rw[decide_eq_false (fun h=>hc10 (by rw[h]))],(Ao.refl _ w)⟩
 ·intro hc10
  have hlen:xs.length=ys.length:=by omega
  refine jG ?_;refine Al.loop (ι:=Nat) (fun i ρ' w'=>AG ρ' [(0,.slice a xs.length c),(1,.slice d ys.length e),(12,.int .i64 ((xs.length:Nat):Int)),(13,.int .i64 ((i:Nat):Int))]∧As w w'∧(i≤xs.length)∧(CJ xs ys i)) (fun i=>xs.length-i) 0 ?_ ?_
  ·refine⟨⟨rfl,rfl,rfl,rfl,trivial⟩,(Ao.refl _ w),?_,?_⟩
   ·omega
   ·exact CJ.zero _ _
  rintro i a4 a5 ⟨a3,K0,hi,hno⟩ ih1;obtain⟨ρ₀,rfl⟩:=a3.ex;clear a3;refine jG ?_;refine jF ?_ ?_
  ·intro hc14
   refine jG ?_;obtain⟨a6,a7,x,hx,a8,a0⟩:=hs.eo i;have hc_9_lt:=a0.lt;obtain⟨a9,aa,y,hy,ab,a1⟩:=ht.eo i;have hc_15_lt:=a1.lt;refine Al.drawR ?_;intro ac a2;replace a0:=(a0.ext K0).ext a2;replace a1:=(a1.ext K0).ext a2;refine jG ?_;refine jD (Ew Zk rfl rfl (CF x y)) ?_;refine jG ?_;replace K0:=K0.ext a2;refine jF ?_ ?_
   ·intro hc24
    refine jG ?_;refine jJ func92 ?_;exact⟨_,rfl,by rw[decide_eq_false (DJ hx hy hc24)],K0⟩
   ·intro hc24
    refine jG ?_;refine jV (Ay (c:=((i+1:Nat):Int)) (Aq rfl rfl Zo Zo) rfl) ?_;refine jG ?_;refine ih1 (i+1) _ _ ?_ Zo;refine⟨⟨rfl,rfl,rfl,rfl,trivial⟩,K0,?_,?_⟩
    ·omega
    ·exact hno.step hx hy hc24
  ·intro hc14
   refine jG ?_;refine jJ func92 ?_;exact⟨_,rfl,by rw[decide_eq_true (hno.all hlen Zo)],K0⟩
theorem JN (a:Option Addr)(xs:List Ah)(c:Nat)(w:World)(hs:At w a xs)(hl:xs.length≤4294967295):
  Calls prog 79 #[.slice a xs.length c] w (AU (fun v w'=>∃a' c',v= .slice a' xs.length c'∧Ag w' 87 a' c' xs∧(∀b,own a' b→w.heap.size≤b)∧As w w')):=by
 refine Af (n:=8) func79 rfl rfl rfl ?_;refine jG ?_;refine jV (E3 underlying25 rfl rfl) ?_;refine jG ?_;refine Al.cond rfl (fun hc4=> ?_) (fun hc4=> ?_)
 ·skip
  refine jG ?_;refine jJ func79 ?_;have hx:=hs.nil_of hc4;subst hx;exact⟨_,rfl,none,0,rfl,Ag.nil _ _,fun b h=>absurd h (Ad b),(Ao.refl _ w)⟩
 ·skip
  refine jG ?_;refine jR<|AD.buildSlice ([]:List Ah) underlying25 ty87 rfl rfl Ze ?_;intro ab ac a0 a4 a5;have a1:=Az (Nat.le_refl _) (Av a0);clear a0;have K0:=(a5:As w _);refine jG ?_;refine jR<|AD.append (xs:=([]:List Ah)) (ys:=xs) underlying25 ty87 rfl rfl rfl a4 (hs.ext K0) Zr Zd ?_;intro a2 a6 ad a7 a8 a3 a9;have aa:∀q_,own a2 q_→w.heap.size≤q_:=a3.ge a1 K0.size;clear a3;clear a9;refine jG ?_;refine jJ func79 ?_;replace K0:=K0.new a8 a1;exact⟨_,rfl,a2,a6,by rw[List.nil_append],by simpa using a7,aa,K0⟩
theorem Gv (am:Option Addr)(ms:List Ac)(cm:Nat)(ac:Option Addr)(cl:List Ah)(cc:Nat)(d:Ah)(w:World)(hs:At w am ms)(ht:At w ac cl)(hl:ms.length≤4294967295)(hl2:cl.length≤4294967295):
  Calls prog 103 #[.agg #[.slice am ms.length cm,.slice ac cl.length cc],.agg #[.int .i64 ((d).node),.int .i64 ((d).life),.int .i64 ((d).count)]] w (AU (fun v w'=>v= .bool (decide (CP ms cl d))∧As w w')):=by
 refine Af (n:=23) func103 rfl rfl rfl ?_;refine jG ?_;refine jR<|jB ?_;intro a9 ab a7 a0 aa;have:w.heap.size≤a9:=a7;clear a7;have K0:=(aa:As w _);refine jR<|jB ?_;intro ad ae a2 a1 a8;have af:=Aj a0.lt a2;have:=Nat.le_trans K0.size a2;clear a2;refine jG ?_;refine Al.drawS [] [0,1001,2,3,4,1005,1006,1007,2008,2009,10,11,12,1013,1014,2015,16,17,18] ?_;intro ag a3;replace a0:=(a0.ext a8).ext a3;replace a1:=a1.ext a3;refine jM (jb a0 (jb a1 Jn)) ?_;refine jG ?_;refine jZ (fun hg=>(Fw d _)) ?_;intro ah a4;replace a0:=a0.ext a4;replace a1:=a1.ext a4;refine jG ?_;replace K0:=((K0.ext a8).ext a3).ext a4;refine jZ (fun hg=>(Kv am ms cm ac cl cc (Ah.a d) _ (hs.ext K0) (ht.ext K0) Zo Zo)) ?_;intro ai a5;replace a0:=a0.ext a5;replace a1:=a1.ext a5;refine jG ?_;replace K0:=K0.ext a5;refine jZ (fun hg=>(H7 _ _ _ d _ (ht.ext K0) Zo)) ?_;intro aj a6;replace a0:=a0.ext a6;replace a1:=a1.ext a6;refine jG ?_;refine jQ ?_ (hx:=by exact fun _ hg=>(Sn hg rfl rfl rfl));refine jP ?_ (hx:=by exact fun _=>(AN rfl rfl rfl));refine jG ?_;refine jJ func103 ?_;replace K0:=K0.ext a6;exact⟨_,rfl,by rw[←covers_ite],K0⟩
theorem Fx (am:Option Addr)(ms:List Ac)(cm:Nat)(ac:Option Addr)(cl:List Ah)(cc:Nat)(d:Ah)(w:World)(hs:At w am ms)(ht:At w ac cl)(hl:ms.length≤4294967295)(hl2:cl.length≤4294967295):
  Calls prog 40 #[.agg #[.slice am ms.length cm,.slice ac cl.length cc],.agg #[.int .i64 ((d).node),.int .i64 ((d).life),.int .i64 ((d).count)]] w (AU (fun v w'=>v= .bool (decide (D6 ms cl d))∧As w w')):=by
 refine Af (n:=33) func40 rfl rfl rfl ?_;refine jG ?_;refine jR<|jB ?_;intro a9 ah aa a0 ag;have:w.heap.size≤a9:=aa;clear aa;have K0:=(ag:As w _);refine jR<|jB ?_;intro ab ai a4 a1 ad;have aj:=Aj a0.lt a4;have:=Nat.le_trans K0.size a4;clear a4;refine jG ?_;refine Al.drawS [] [0,1001,2,3,4,1005,6,1007,8,1009,10,1011,2012,13,14] ?_;intro ak a5;replace a0:=(a0.ext ad).ext a5;replace a1:=a1.ext a5;refine jM (jb a0 (jb a1 Jn)) ?_;refine jG ?_;replace K0:=(K0.ext ad).ext a5;refine jZ (fun hg=>(JM _ ms _ ((d).node) ((d).life) _ (hs.ext K0) Zo)) ?_;intro al a6;replace a0:=a0.ext a6;replace a1:=a1.ext a6;refine jG ?_;refine jP ?_ (hx:=by exact fun _=>(AN rfl rfl rfl));refine jG ?_;replace K0:=K0.ext a6;refine jF ?_ ?_
 ·intro hc21
  refine jG ?_;refine jJ func40 ?_;exact⟨_,rfl,by rw[decide_eq_true (.inl hc21)],K0⟩
 ·intro hc21
  refine jG ?_;refine Al.loop (ι:=Nat) (fun i ρ' w'=>AG ρ' [(3,jp ab),(23,.slice ac cl.length cc),(24,.int .i64 ((cl.length:Nat):Int)),(25,.int .i64 ((i:Nat):Int))]∧As w w'∧(AI w' a9 [.slice am ms.length cm,.slice ac cl.length cc] 27)∧(AI w' ab [.int .i64 ((d).node),.int .i64 ((d).life),.int .i64 ((d).count)] 87)∧(i≤cl.length)∧(Ep (fun x=>decide (x=d)) cl i)) (fun i=>cl.length-i) 0 ?_ ?_
  ·refine⟨⟨rfl,rfl,rfl,rfl,trivial⟩,K0,a0,a1,?_,?_⟩
   ·omega
   ·exact Ep.zero _ _
  clear a0 a1;clear K0;rintro i an ao ⟨ae,K0,a0,a1,hi,hno⟩ ih1;obtain⟨ρ₀,rfl⟩:=ae.ex;clear ae;refine jG ?_;refine jF ?_ ?_
  ·intro hc26
   obtain⟨ap,aq,x,hx,ar,a3⟩:=ht.eo i;have hc_22_lt:=a3.lt;replace a3:=a3.ext K0;refine jG ?_;refine jR<|jA ?_;intro au av a2 af a7;have aw:=Aj a0.lt a2;have ax:=Aj a1.lt a2;have ay:=Aj a3.lt a2;have:=Nat.le_trans K0.size a2;clear a2;refine jR<|jS af ?_;intro az af a8;replace a1:=(a1.ext a7).kp a8;refine jG ?_;refine jV (Ev Zk rfl rfl (CF x d)) ?_;refine jG ?_;replace a0:=(a0.ext a7).kp a8;replace K0:=(K0.ext a7).n1 a8;refine jF ?_ ?_
   ·intro hc31
    refine jG ?_;refine jJ func40 ?_;exact⟨_,rfl,by rw[decide_eq_true (.inr (by subst hc31;exact AT hx))],K0⟩
   ·intro hc31
    refine jG ?_;refine jV (Ay (c:=((i+1:Nat):Int)) (Aq rfl rfl Zo Zo) rfl) ?_;refine jG ?_;refine ih1 (i+1) _ _ ?_ Zo;refine⟨⟨rfl,rfl,rfl,rfl,trivial⟩,K0,a0,a1,?_,?_⟩
    ·omega
    ·exact hno.step hx (decide_eq_false hc31)
  ·intro hc26
   refine jG ?_;refine jJ func40 ?_;exact⟨_,rfl,by rw[decide_eq_false (fun h=>h.elim (fun h=>by have h2:d.count≤B1 ms ⟨d.node,d.life⟩:=h.2;omega) (fun h=>Ql hno Zo h))],K0⟩
end Go.Proofs.YtocgdeefgohdhaaGreat
namespace Go.Proofs.YtocgdeefgohdhaaGreat
open Go.Proofs.Tryz
attribute [local irreducible] RD RS AD RL RA RT BH Al
theorem E5 {α : Type} {r : α → α → Prop} (irr : ∀ a, ¬ r a a) (tr : ∀ a b c, r a b → r b c → r a c) :
    ∀ {l l' : List α}, l.Pairwise r → l'.Pairwise r → (∀ x, x ∈ l ↔ x ∈ l') → l = l'
  | [], [], _, _, _ => rfl
  | [], b :: l', _, _, h => absurd ((h b).2 Zs) Zs
  | a :: l, [], _, _, h => absurd ((h a).1 Zs) Zs
  | a :: l, b :: l', h1, h2, h => by
    rw [List.pairwise_cons] at h1 h2
    have hab : a = b := by
      rcases List.mem_cons.1 ((h a).1 Zs) with e | ha
      · exact e
      · rcases List.mem_cons.1 ((h b).2 Zs) with e | hb
        · exact e.symm
        · exact absurd (tr _ _ _ (h1.1 b hb) (h2.1 a ha)) (irr a)
    subst hab
    congr 1
    refine E5 irr tr h1.2 h2.2 fun x => ⟨fun hx => ?_, fun hx => ?_⟩
    · rcases List.mem_cons.1 ((h x).1 (List.mem_cons_of_mem _ hx)) with e | h3
      · subst e; exact absurd (h1.1 x hx) (irr x)
      · exact h3
    · rcases List.mem_cons.1 ((h x).2 (List.mem_cons_of_mem _ hx)) with e | h3
      · subst e; exact absurd (h2.1 x hx) (irr x)
      · exact h3
theorem Nz {l l':List Ac}(h1:l.Pairwise Ca)(h2:l'.Pairwise Ca)(h:∀x,x∈l↔x∈l'):l=l':=
 E5 (fun _=>JK) (fun _ _ _=>Cy) h1 h2 h
theorem NA {l l':List Ah}(h1:l.Pairwise CK)(h2:l'.Pairwise CK)(h:∀x,x∈l↔x∈l'):l=l':=
 E5 (fun _=>JJ) (fun _ _ _=>EP) h1 h2 h
theorem H8 {a b:Ac}(h:Ca a b):a.d.a≠b.d.a:=by
 simp only[Ac.d,Ah.a,ne_eq,AZ.mk.injEq];unfold Ca at h;omega
theorem JO {a b:Ac}(h:a.d.a≠b.d.a):Ca a b∨Ca b a:=by
 simp only[Ac.d,Ah.a,ne_eq,AZ.mk.injEq]at h;unfold Ca;omega
theorem Jb {a b c:Ac}(h:a.d.a=b.d.a):Ca a c↔Ca b c:=by
 simp only[Ac.d,Ah.a,AZ.mk.injEq]at h;unfold Ca;omega
theorem H9 {a b c:Ac}(h:a.d.a=b.d.a):Ca c a↔Ca c b:=by
 simp only[Ac.d,Ah.a,AZ.mk.injEq]at h;unfold Ca;omega
theorem Ac.eta {a b:Ac}(h:a.d.a=b.d.a)(h2:a.count=b.count):a=b:=by
 cases a;cases b;simp only[Ac.d,Ah.a,AZ.mk.injEq]at h;simp_all
theorem Eg (m:Ac)(l:List Ac)(a:AZ):B1 (m::l) a=if m.d.a=a then m.count else B1 l a:=by
 unfold B1
 rw[List.find?_cons]
 by_cases h:m.d.a=a
 ·simp[h]
 ·simp[h]
theorem E6 {l : List Ac} (h : l.Pairwise Ca) {m : Ac} (hm : m ∈ l) : B1 l m.d.a = m.count := by
  induction l with
  | nil => cases hm
  | cons x l ih =>
    rw [List.pairwise_cons] at h
    rw [Eg]
    rcases List.mem_cons.1 hm with rfl | h2
    · rw [if_pos rfl]
    · rw [if_neg (H8 (h.1 m h2)), ih h.2 h2]
structure BS (ms:List Ac)(cl:List Ah):Prop where
 hm:ms.Pairwise Ca
 hp:∀m∈ms,1≤m.count
 hc:cl.Pairwise CK
 hg:∀d∈cl,B1 ms d.a+1<d.count
theorem BS.pos {ms:List Ac}{cl:List Ah}(h:BS ms cl)(a:AZ):0≤B1 ms a:=by
 by_cases hz:B1 ms a=0
 ·omega
 ·obtain⟨m,hm,-,e⟩:=D5 hz
  have:=h.hp m hm;omega
theorem BS.nil :BS [] []:=⟨List.Pairwise.nil,by simp,List.Pairwise.nil,by simp⟩
theorem Kw {ms ms':List Ac}{cl cl':List Ah}(h:BS ms cl)(h':BS ms' cl')(he:∀d,CP ms cl d→CP ms' cl' d)(a:AZ):B1 ms a≤B1 ms' a:=by
 obtain⟨an,al⟩:=a
 refine Decidable.byContradiction fun hlt=> ?_
 have hp':=h'.pos ⟨an,al⟩
 have hq:CP ms cl ⟨an,al,B1 ms' ⟨an,al⟩+1⟩:= .inl ⟨by show(1:Int)≤B1 ms' ⟨an,al⟩+1;omega,by show B1 ms' ⟨an,al⟩+1≤B1 ms ⟨an,al⟩;omega⟩
 rcases he _ hq with⟨_,h2⟩|⟨_,h2⟩
 ·replace h2:B1 ms' ⟨an,al⟩+1≤B1 ms' ⟨an,al⟩:=h2;omega
 ·have h3:B1 ms' ⟨an,al⟩+1<B1 ms' ⟨an,al⟩+1:=h'.hg _ h2;omega
theorem NB {ms ms':List Ac}{cl cl':List Ah}(h:BS ms cl)(h':BS ms' cl')(he:∀d,CP ms cl d↔CP ms' cl' d):ms=ms'∧cl=cl':=by
 have hmk:∀a,B1 ms a=B1 ms' a:=fun a=>Int.le_antisymm (Kw h h' (fun d=>(he d).1) a) (Kw h' h (fun d=>(he d).2) a)
 have hsub:∀{ms ms':List Ac},ms.Pairwise Ca→(∀m∈ms,1≤m.count)→ms'.Pairwise Ca→(∀a,B1 ms a=B1 ms' a)→∀m∈ms,m∈ms':=by
  intro ms ms' h1 h2 h3 h4 m hm
  have e:=E6 h1 hm
  have p:=h2 m hm
  obtain⟨x,hx,ha,hc⟩:=D5 (ms:=ms') (a:=m.d.a) (by rw[←h4];omega)
  have:x=m:=Ac.eta ha (by rw[hc,←h4,e])
  exact this▸hx
 have e1:ms=ms':=Nz h.hm h'.hm fun m=>⟨hsub h.hm h.hp h'.hm hmk m,hsub h'.hm h'.hp h.hm (fun a=>(hmk a).symm) m⟩
 refine⟨e1,NA h.hc h'.hc ?_⟩
 subst e1
 have hs:∀{cl cl':List Ah},BS ms cl→BS ms cl'→(∀d,CP ms cl d→CP ms cl' d)→∀d∈cl,d∈cl':=by
  intro cl cl' h h' he d hd
  have hg:=h.hg d hd
  have hp:=h.pos d.a
  rcases he d (.inr ⟨by omega,hd⟩)with⟨_,h2⟩|⟨_,h2⟩
  ·omega
  ·exact h2
 exact fun d=>⟨hs h h' (fun d=>(he d).1) d,hs h' h (fun d=>(he d).2) d⟩
theorem E7 {α : Type} {r : α → α → Prop} (tr : ∀ a b c, r a b → r b c → r a c) {l : List α} (h : ∀ i x y, l[i]? = some x → l[i + 1]? = some y → r x y) : l.Pairwise r := by
  induction l with
  | nil => exact List.Pairwise.nil
  | cons a l ih =>
    have hl := ih fun i x y h1 h2 => h (i + 1) x y (by simpa using h1) (by simpa using h2)
    refine List.pairwise_cons.2 ⟨?_, hl⟩
    cases l with
    | nil => simp
    | cons b l =>
      have hab := h 0 a b rfl rfl
      intro x hx
      rcases List.mem_cons.1 hx with rfl | hx
      · exact hab
      · exact tr _ _ _ hab ((List.pairwise_cons.1 hl).1 x hx)
theorem Dd {α:Type}{r:α→α→Prop}{l:List α}(h:l.Pairwise r){i j:Nat}{x y:α}(hij:i<j)(hx:l[i]? =some x)(hy:l[j]? =some y):r x y:=by
 obtain⟨hi,rfl⟩:=List.getElem?_eq_some_iff.1 hx
 obtain⟨hj,rfl⟩:=List.getElem?_eq_some_iff.1 hy
 exact List.pairwise_iff_getElem.1 h i j hi hj hij
theorem EC.canon {ms:List Ac}{cl:List Ah}(h:EC ms cl):BS ms cl:=by
 refine⟨E7 (r:=Ca) (fun _ _ _=>Cy) fun i x y hx hy=> ?_,fun m hm=>(h.may hm).2.2.1,E7 (r:=CK) (fun _ _ _=>EP) fun i x y hx hy=> ?_,fun d hd=> ?_⟩
 ·exact((h.2.2.1 (i+1)) y hy).2 Zo x hx
 ·exact((h.2.2.2 (i+1)) y hy).2.1 Zo x hx
 ·obtain⟨j,hj,rfl⟩:=List.getElem_of_mem hd
  exact(h.2.2.2 j _ (List.getElem?_eq_getElem hj)).2.2
theorem BS.can {ms:List Ac}{cl:List Ah}(h:BS ms cl)(h1:ms.length≤64)(h2:cl.length≤64)(h3:∀m∈ms,AO m.d)(h4:∀d∈cl,AO d):EC ms cl:=by
 refine⟨h1,h2,fun i m hm=>⟨h3 m (List.mem_of_getElem? hm),fun hi x hx=>Dd h.hm Zo hx hm⟩,fun i d hd=>⟨h4 d (List.mem_of_getElem? hd),fun hi x hx=>Dd h.hc Zo hx hd,h.hg d (List.mem_of_getElem? hd)⟩⟩
theorem BS.may {ms:List Ac}{cl:List Ah}(h:BS ms cl)(hd:∀d,CP ms cl d→AO d):(∀m∈ms,AO m.d)∧∀d∈cl,AO d:=by
 refine⟨fun m hm=>hd _ (.inl ⟨h.hp m hm,?_⟩),fun d hd'=>hd _ (.inr ⟨?_,hd'⟩)⟩
 ·rw[E6 h.hm hm];exact Int.le_refl _
 ·have:=h.hg d hd';have:=h.pos d.a;omega
def Gw (M:List Ac)(D:List Ah)(d:Ah):Prop:=1≤d.count∧((∃m∈M,m.d.a=d.a∧d.count≤m.count)∨d∈D)
theorem BS.raw {ms:List Ac}{cl:List Ah}(h:BS ms cl)(d:Ah):CP ms cl d↔Gw ms cl d:=by
 constructor
 ·rintro(⟨h1,h2⟩|⟨h1,h2⟩)
  ·obtain⟨m,hm,ha,hc⟩:=D5 (ms:=ms) (a:=d.a) Zo
   exact⟨h1,.inl ⟨m,hm,ha,by omega⟩⟩
  ·exact⟨h1,.inr h2⟩
 ·rintro⟨h1,⟨m,hm,ha,hc⟩|h2⟩
  ·refine .inl ⟨h1,?_⟩
   rw[←ha,E6 h.hm hm];exact hc
  ·exact .inr ⟨h1,h2⟩
theorem BS.of_raw {ms M:List Ac}{cl D:List Ah}(h:BS ms cl)(hr:∀d,Gw ms cl d↔Gw M D d):∀d,CP ms cl d↔Gw M D d:=fun d=>(h.raw d).trans (hr d)
def N6 (a b:Ah):Bool:= !decide (CK b a)
def AY (l:List Ah):List Ah:=l.mergeSort N6
theorem NC (a b c:Ah)(h1:N6 a b=true)(h2:N6 b c=true):N6 a c=true:=by
 simp only[N6,Bool.not_eq_true',decide_eq_false_iff_not]at*;unfold CK at*;omega
theorem ND (a b:Ah):(N6 a b||N6 b a)=true:=by
 simp only[N6,Bool.or_eq_true,Bool.not_eq_true',decide_eq_false_iff_not];unfold CK;omega
theorem Dv {l:List Ah}{d:Ah}:d∈AY l↔d∈l:=List.mem_mergeSort
theorem Ia (l:List Ah):(AY l).Pairwise (fun a b=>¬CK b a):=by
 have:=List.pairwise_mergeSort (le:=N6) NC ND l
 exact this.imp fun h=>by simpa[N6]using h
def Cj (acc:List Ac)(d:Ah):List Ac:=
 match acc.getLast? with
 |some m=>if m.d.a=d.a then acc.dropLast++[⟨m.node,m.life,d.count⟩]else acc++[d.m]
 |none=>[d.m]
def Ce (l:List Ah):List Ac:=l.foldl Cj []
theorem Hm (acc:List Ac)(m:Ac)(d:Ah):Cj (acc++[m]) d=if m.d.a=d.a then acc++[⟨m.node,m.life,d.count⟩]else acc++[m]++[d.m]:=by
 unfold Cj;rw[List.getLast?_append];simp
theorem Ib (d:Ah):Cj [] d=[d.m]:=rfl
structure E8 (acc:List Ac)(l:List Ah):Prop where
 hm:acc.Pairwise Ca
 hp:∀m∈acc,1≤m.count
 hl:∀m,acc.getLast? =some m→l.getLast? =some m.d
 he:acc=[]↔l=[]
 hr:∀d:Ah,1≤d.count→((∃m∈acc,m.d.a=d.a∧d.count≤m.count)↔∃x∈l,x.a=d.a∧d.count≤x.count)
theorem E8.step {acc:List Ac}{l:List Ah}{d:Ah}(h:E8 acc l)(hd:1≤d.count)(hle:∀x∈l,¬CK d x):E8 (Cj acc d) (l++[d]):=by
 rcases List.eq_nil_or_concat acc with rfl|⟨ls,m,rfl⟩
 ·have:=h.he.1 rfl;subst this
  rw[Ib]
  refine⟨by simp,by simpa using hd,by simp,by simp,fun e he=> ?_⟩
  simp
 ·rw[List.concat_eq_append]at h⊢
  have hlast:=h.hl m Zs
  have hml:m.d∈l:=List.mem_of_getLast? hlast
  have hmd:=hle _ hml
  have hm:=h.hm
  rw[List.pairwise_append]at hm
  have hp:=h.hp
  rw[Hm]
  by_cases ha:m.d.a=d.a
  ·rw[if_pos ha]
   have hc:m.count≤d.count:=by
    simp only[Ac.d,Ah.a,AZ.mk.injEq]at ha;simp only[Ac.d,CK]at hmd;omega
   refine⟨List.pairwise_append.2 ⟨hm.1,by simp,fun x hx y hy=> ?_⟩,fun x hx=> ?_,fun x hx=> ?_,by simp,fun e he=> ?_⟩
   ·simp only[List.mem_singleton]at hy;subst hy
    exact(H9 (a:=m) rfl).1 (hm.2.2 x hx m Zs)
   ·rcases List.mem_append.1 hx with h2|h2
    ·exact hp x (by simp[h2])
    ·simp only[List.mem_singleton]at h2;subst h2;exact hd
   ·simp only[List.getLast?_append,List.getLast?_singleton,Option.some_or,Option.some.injEq]at hx⊢
    subst hx
    simp only[Ac.d,Ah.a,AZ.mk.injEq]at ha⊢
    exact Ah.eta ha.1.symm ha.2.symm rfl
   ·have h0:=h.hr e he
    constructor
    ·rintro⟨x,hx,h1,h2⟩
     rcases List.mem_append.1 hx with h3|h3
     ·obtain⟨y,hy,h4⟩:=h0.1 ⟨x,by simp[h3],h1,h2⟩
      exact⟨y,by simp[hy],h4⟩
     ·simp only[List.mem_singleton]at h3;subst h3
      exact⟨d,by simp,ha▸h1,h2⟩
    ·rintro⟨x,hx,h1,h2⟩
     rcases List.mem_append.1 hx with h3|h3
     ·obtain⟨y,hy,h4,h5⟩:=h0.2 ⟨x,h3,h1,h2⟩
      rcases List.mem_append.1 hy with h6|h6
      ·exact⟨y,by simp[h6],h4,h5⟩
      ·simp only[List.mem_singleton]at h6;subst h6
       exact⟨_,List.mem_append_right _ (List.mem_singleton.2 rfl),h4,Int.le_trans h5 hc⟩
     ·simp only[List.mem_singleton]at h3;subst h3
      exact⟨_,List.mem_append_right _ (List.mem_singleton.2 rfl),ha.trans h1,h2⟩
  ·rw[if_neg ha]
   have hlt:Ca m d.m:=by
    simp only[Ac.d,Ah.a,AZ.mk.injEq]at ha;simp only[Ac.d,CK]at hmd;simp only[Ca];omega
   refine⟨List.pairwise_append.2 ⟨h.hm,by simp,fun x hx y hy=> ?_⟩,fun x hx=> ?_,fun x hx=> ?_,by simp,fun e he=> ?_⟩
   ·simp only[List.mem_singleton]at hy;subst hy
    rcases List.mem_append.1 hx with h2|h2
    ·exact Cy (hm.2.2 x h2 m Zs) hlt
    ·simp only[List.mem_singleton]at h2;subst h2;exact hlt
   ·rcases List.mem_append.1 hx with h2|h2
    ·exact hp x h2
    ·simp only[List.mem_singleton]at h2;subst h2;exact hd
   ·simp only[List.getLast?_append,List.getLast?_singleton,Option.some_or,Option.some.injEq]at hx⊢
    subst hx;rfl
   ·have h0:=h.hr e he
    constructor
    ·rintro⟨x,hx,h1,h2⟩
     rcases List.mem_append.1 hx with h3|h3
     ·obtain⟨y,hy,h4⟩:=h0.1 ⟨x,h3,h1,h2⟩
      exact⟨y,by simp[hy],h4⟩
     ·simp only[List.mem_singleton]at h3;subst h3
      exact⟨d,by simp,h1,h2⟩
    ·rintro⟨x,hx,h1,h2⟩
     rcases List.mem_append.1 hx with h3|h3
     ·obtain⟨y,hy,h4⟩:=h0.2 ⟨x,h3,h1,h2⟩
      exact⟨y,List.mem_append_left _ hy,h4⟩
     ·simp only[List.mem_singleton]at h3;subst h3
      exact⟨x.m,List.mem_append_right _ Zs,h1,h2⟩
theorem E8.all {l : List Ah} (hp : ∀ d ∈ l, 1 ≤ d.count) (hs : l.Pairwise (fun a b => ¬ CK b a)) : E8 (Ce l) l := by
  have key : ∀ (r l : List Ah) (acc : List Ac), E8 acc l → (∀ d ∈ r, 1 ≤ d.count) → (l ++ r).Pairwise (fun a b => ¬ CK b a) → E8 (r.foldl Cj acc) (l ++ r) := by
    intro r
    induction r with
    | nil => intro l acc h _ _; simpa using h
    | cons d r ih =>
      intro l acc h h1 h2
      have := ih (l ++ [d]) (Cj acc d) (h.step (h1 d Zs) fun x hx => (List.pairwise_append.1 h2).2.2 x hx d Zs) (fun x hx => h1 x (by simp [hx])) (by simpa using h2)
      simpa using this
  have h := key l [] [] ⟨List.Pairwise.nil, by simp, by simp, by simp, by simp⟩ hp (by simpa using hs)
  rw [List.nil_append] at h
  exact h
def setM :List Ac→Ah→List Ac
 |[],d=>[d.m]
 |m::l,d=>if m.d.a=d.a then⟨m.node,m.life,d.count⟩::l else if Ca d.m m then d.m::m::l else m::setM l d
theorem Ic {l : List Ac} {d : Ah} {x : Ac} (h : x ∈ setM l d) : x = d.m ∨ x ∈ l := by
  induction l with
  | nil => simp [setM] at h; exact .inl h
  | cons m l ih =>
    rw [setM] at h
    split at h
    · rename_i ha
      rcases List.mem_cons.1 h with rfl | h
      · exact .inl (Ac.eta ha rfl)
      · exact .inr (by simp [h])
    · split at h
      · rcases List.mem_cons.1 h with rfl | h
        · exact .inl rfl
        · exact .inr h
      · rcases List.mem_cons.1 h with rfl | h
        · exact .inr Zs
        · rcases ih h with h | h
          · exact .inl h
          · exact .inr (by simp [h])
theorem Hn {l : List Ac} {d : Ah} (h : l.Pairwise Ca) : (setM l d).Pairwise Ca := by
  induction l with
  | nil => simp [setM]
  | cons m l ih =>
    rw [List.pairwise_cons] at h
    rw [setM]
    split
    · exact List.pairwise_cons.2 ⟨fun x hx => (Jb (a := m) rfl).1 (h.1 x hx), h.2⟩
    · rename_i ha
      split
      · rename_i hlt
        refine List.pairwise_cons.2 ⟨fun x hx => ?_, List.pairwise_cons.2 h⟩
        rcases List.mem_cons.1 hx with rfl | hx
        · exact hlt
        · exact Cy hlt (h.1 x hx)
      · rename_i hlt
        refine List.pairwise_cons.2 ⟨fun x hx => ?_, ih h.2⟩
        rcases Ic hx with rfl | hx
        · exact (JO (a := m) (b := d.m) ha).elim id fun h2 => absurd h2 hlt
        · exact h.1 x hx
theorem MG {l : List Ac} {d : Ah} (a : AZ) : B1 (setM l d) a = if d.a = a then d.count else B1 l a := by
  induction l with
  | nil => rw [setM, Eg]
  | cons m l ih =>
    rw [setM]
    split
    · rename_i ha
      rw [Eg, Eg]
      by_cases h : d.a = a
      · rw [if_pos (show (⟨m.node, m.life, d.count⟩ : Ac).d.a = a from ha.trans h), if_pos h]
      · rw [if_neg (show ¬ (⟨m.node, m.life, d.count⟩ : Ac).d.a = a from fun e => h (ha.symm.trans e)), if_neg h, if_neg (fun e => h (ha.symm.trans e))]
    · rename_i ha
      split
      · rw [Eg]
      · rw [Eg, ih, Eg]
        by_cases h : d.a = a
        · rw [if_pos h, if_neg (fun e => ha (e.trans h.symm)), if_pos h]
        · rw [if_neg h, if_neg h]
def BN (c:List Ac×List Ah)(d:Ah):List Ac×List Ah:=
 if d.count≤B1 c.1 d.a then c else if B1 c.1 d.a+1<d.count then(c.1,c.2++[d])else(setM c.1 d,c.2)
theorem Kx {ms:List Ac}{cl:List Ah}{d:Ah}(h:BS ms cl)(hd:1≤d.count)(hlt:∀x∈cl,CK x d):
  BS (BN (ms,cl) d).1 (BN (ms,cl) d).2∧(∀x,CP (BN (ms,cl) d).1 (BN (ms,cl) d).2 x↔CP ms cl x∨x=d)∧(∀x∈(BN (ms,cl) d).2,x∈cl∨x=d):=by
 unfold BN
 simp only
 have hpos:=h.pos d.a
 split
 ·rename_i h1
  refine⟨h,fun x=>⟨.inl,?_⟩,fun x hx=> .inl hx⟩
  rintro(h2|rfl)
  ·exact h2
  ·exact .inl ⟨hd,h1⟩
 ·split
  ·rename_i h1 h2
   refine⟨⟨h.hm,h.hp,List.pairwise_append.2 ⟨h.hc,by simp,fun x hx y hy=> ?_⟩,fun x hx=> ?_⟩,fun x=> ?_,fun x hx=>by simpa using hx⟩
   ·simp only[List.mem_singleton]at hy;subst hy;exact hlt x hx
   ·rcases List.mem_append.1 hx with hx|hx
    ·exact h.hg x hx
    ·simp only[List.mem_singleton]at hx;subst hx;exact h2
   ·simp only[CP,List.mem_append,List.mem_singleton]
    constructor
    ·rintro(h3|⟨h3,h4|h4⟩)
     ·exact .inl (.inl h3)
     ·exact .inl (.inr ⟨h3,h4⟩)
     ·exact .inr h4
    ·rintro((h3|⟨h3,h4⟩)|rfl)
     ·exact .inl h3
     ·exact .inr ⟨h3,.inl h4⟩
     ·exact .inr ⟨hd,.inr rfl⟩
  ·rename_i h1 h2
   have hc:d.count=B1 ms d.a+1:=by omega
   have hno:∀x∈cl,x.a≠d.a:=fun x hx e=>by
    have h3:=h.hg x hx
    have h4:=hlt x hx
    rw[e]at h3
    simp only[Ah.a,AZ.mk.injEq]at e;unfold CK at h4;omega
   refine⟨⟨Hn h.hm,fun m hm=> ?_,h.hc,fun x hx=> ?_⟩,fun x=> ?_,fun x hx=> .inl hx⟩
   ·rcases Ic hm with rfl|h3
    ·exact hd
    ·exact h.hp m h3
   ·rw[MG,if_neg (fun e=>hno x hx e.symm)];exact h.hg x hx
   ·simp only[CP,MG]
    by_cases ha:d.a=x.a
    ·rw[if_pos ha]
     rw[←ha]
     constructor
     ·rintro(⟨h3,h4⟩|h3)
      ·by_cases h5:x.count=d.count
       ·right
        simp only[Ah.a,AZ.mk.injEq]at ha
        exact Ah.eta ha.1.symm ha.2.symm h5
       ·exact .inl (.inl ⟨h3,by omega⟩)
      ·exact .inl (.inr h3)
     ·rintro((⟨h3,h4⟩|h3)|rfl)
      ·exact .inl ⟨h3,by omega⟩
      ·exact .inr h3
      ·exact .inl ⟨hd,Int.le_refl _⟩
    ·rw[if_neg ha]
     constructor
     ·exact .inl
     ·rintro(h3|rfl)
      ·exact h3
      ·exact absurd rfl ha
theorem NE {l : List Ah} {c : List Ac × List Ah} (h : BS c.1 c.2) (hp : ∀ d ∈ l, 1 ≤ d.count) (hs : (c.2 ++ l).Pairwise CK) :
    BS (l.foldl BN c).1 (l.foldl BN c).2 ∧ (∀ x, CP (l.foldl BN c).1 (l.foldl BN c).2 x ↔ CP c.1 c.2 x ∨ x ∈ l) := by
  induction l generalizing c with
  | nil => exact ⟨h, fun x => by simp⟩
  | cons d l ih =>
    have hs' := List.pairwise_append.1 hs
    obtain ⟨h1, h2, h3⟩ := Kx (d := d) h (hp d Zs) fun x hx => hs'.2.2 x hx d Zs
    have hd := List.pairwise_cons.1 hs'.2.1
    obtain ⟨h4, h5⟩ := ih (c := BN c d) h1 (fun x hx => hp x (by simp [hx])) (List.pairwise_append.2 ⟨h1.hc, hd.2, fun x hx y hy => by
      rcases h3 x hx with h6 | rfl
      · exact hs'.2.2 x h6 y (by simp [hy])
      · exact hd.1 y hy⟩)
    refine ⟨h4, fun x => ?_⟩
    rw [List.foldl_cons, h5, h2, List.mem_cons, or_assoc]
def compD :List Ah→List Ah
 |[]=>[]
 |[a]=>[a]
 |a::b::l=>if a=b then compD (b::l)else a::compD (b::l)
theorem FJ {l : List Ah} {d : Ah} : d ∈ compD l ↔ d ∈ l := by
  induction l with
  | nil => simp [compD]
  | cons a l ih =>
    cases l with
    | nil => simp [compD]
    | cons b l =>
      rw [compD]
      split
      · rename_i h; subst h; rw [ih]; simp
      · rw [List.mem_cons, ih]; simp
theorem JP {l : List Ah} (h : l.Pairwise (fun a b => ¬ CK b a)) : (compD l).Pairwise CK := by
  induction l with
  | nil => simp [compD]
  | cons a l ih =>
    cases l with
    | nil => simp [compD]
    | cons b l =>
      rw [List.pairwise_cons] at h
      rw [compD]
      split
      · exact ih h.2
      · rename_i hab
        refine List.pairwise_cons.2 ⟨fun x hx => ?_, ih h.2⟩
        have hx' := FJ.1 hx
        have h1 := h.1 b Zs
        have hlt : CK a b := Decidable.byContradiction fun h2 => hab (HB h2 h1)
        rcases List.mem_cons.1 hx' with rfl | h3
        · exact hlt
        · have h4 := (List.pairwise_cons.1 h.2).1 x h3
          unfold CK at *; omega
def BI (M:List Ac)(D:List Ah):List Ac×List Ah:=(compD (AY D)).foldl BN (Ce (AY (M.map Ac.d)),[])
theorem Ie {M:List Ac}{D:List Ah}(hM:∀m∈M,1≤m.count)(hD:∀d∈D,1≤d.count):
  BS (BI M D).1 (BI M D).2∧∀d,CP (BI M D).1 (BI M D).2 d↔Gw M D d:=by
 have hm:=E8.all (l:=AY (M.map Ac.d)) (fun d hd=>by
  obtain⟨m,hm,rfl⟩:=List.mem_map.1 (Dv.1 hd);exact hM m hm) (Ia _)
 have hc:BS (Ce (AY (M.map Ac.d))) []:=⟨hm.hm,hm.hp,List.Pairwise.nil,by simp⟩
 obtain⟨h1,h2⟩:=NE (l:=compD (AY D)) (c:=(Ce (AY (M.map Ac.d)),[])) hc (fun d hd=>hD d (Dv.1 (FJ.1 hd))) (by simpa using JP (Ia D))
 refine⟨h1,fun d=>(h2 d).trans ?_⟩
 rw[hc.raw,FJ,Dv]
 constructor
 ·rintro(⟨h3,h4|h4⟩|h3)
  ·obtain⟨x,hx,h5,h6⟩:=(hm.hr d h3).1 h4
   obtain⟨m,hm',rfl⟩:=List.mem_map.1 (Dv.1 hx)
   exact⟨h3,.inl ⟨m,hm',h5,h6⟩⟩
  ·cases h4
  ·exact⟨hD d h3,.inr h3⟩
 ·rintro⟨h3,⟨m,hm',h5,h6⟩|h4⟩
  ·exact .inl ⟨h3,.inl ((hm.hr d h3).2 ⟨m.d,Dv.2 (List.mem_map.2 ⟨m,hm',rfl⟩),h5,h6⟩)⟩
  ·exact .inr h4
theorem OI {M:List Ac}{D:List Ah}{ms:List Ac}{cl:List Ah}(hM:∀m∈M,1≤m.count)(hD:∀d∈D,1≤d.count)
  (h:BS ms cl) (hr:∀d,CP ms cl d↔Gw M D d):BI M D=(ms,cl):=by
 obtain⟨h1,h2⟩:=Ie hM hD
 obtain⟨e1,e2⟩:=NB h1 h fun d=>(h2 d).trans (hr d).symm
 exact Prod.ext e1 e2
def EQ (m:Ac)(s:List Ac×Bool)(x:Ac):List Ac×Bool:=
 if x.d.a=m.d.a then(s.1++[⟨x.node,x.life,max x.count m.count⟩],true)else if s.2=false∧Ca m x then(s.1++[m]++[x],true)else(s.1++[x],s.2)
def ED (l:List Ac)(m:Ac):List Ac:=if (l.foldl (EQ m) ([],false)).2 then(l.foldl (EQ m) ([],false)).1 else(l.foldl (EQ m) ([],false)).1++[m]
def maxM :List Ac→Ac→List Ac
 |[],m=>[m]
 |x::t,m=>if x.d.a=m.d.a then⟨x.node,x.life,max x.count m.count⟩::t else if Ca m x then m::x::t else x::maxM t m
theorem MH {l : List Ac} {m : Ac} (h : ∀ x ∈ l, x.d.a ≠ m.d.a) (out : List Ac) : l.foldl (EQ m) (out, true) = (out ++ l, true) := by
  induction l generalizing out with
  | nil => simp
  | cons x l ih =>
    rw [List.foldl_cons, EQ, if_neg (h x Zs), if_neg Zs, ih fun y hy => h y (by simp [hy])]
    simp
theorem OJ {l : List Ac} {m : Ac} (h : l.Pairwise Ca) (out : List Ac) :
    (if (l.foldl (EQ m) (out, false)).2 then (l.foldl (EQ m) (out, false)).1 else (l.foldl (EQ m) (out, false)).1 ++ [m]) = out ++ maxM l m := by
  induction l generalizing out with
  | nil => simp [maxM]
  | cons x l ih =>
    rw [List.pairwise_cons] at h
    rw [List.foldl_cons, maxM]
    by_cases ha : x.d.a = m.d.a
    · have e : EQ m (out, false) x = (out ++ [⟨x.node, x.life, max x.count m.count⟩], true) := by rw [EQ, if_pos ha]
      rw [e, if_pos ha, MH fun y hy e => H8 (h.1 y hy) (ha.trans e.symm)]
      simp
    · rw [if_neg ha]
      by_cases hl : Ca m x
      · have e : EQ m (out, false) x = (out ++ [m] ++ [x], true) := by rw [EQ, if_neg ha, if_pos ⟨rfl, hl⟩]
        rw [e, if_pos hl, MH fun y hy e => H8 (Cy hl (h.1 y hy)) e.symm]
        simp
      · have e : EQ m (out, false) x = (out ++ [x], false) := by rw [EQ, if_neg ha, if_neg (by simp [hl])]
        rw [e, if_neg hl, ih h.2]
        simp
theorem MI {l:List Ac}(h:l.Pairwise Ca)(m:Ac):ED l m=maxM l m:=by
 have:=OJ (m:=m) h []
 simpa[ED]using this
theorem Ky {l : List Ac} {m x : Ac} (h : x ∈ maxM l m) : x = m ∨ x ∈ l ∨ (x.d.a = m.d.a ∧ ∃ y ∈ l, y.d.a = m.d.a ∧ x.count = max y.count m.count) := by
  induction l with
  | nil => simp [maxM] at h; exact .inl h
  | cons y l ih =>
    rw [maxM] at h
    split at h
    · rename_i ha
      rcases List.mem_cons.1 h with rfl | h
      · exact .inr (.inr ⟨ha, y, by simp, ha, rfl⟩)
      · exact .inr (.inl (by simp [h]))
    · split at h
      · rcases List.mem_cons.1 h with rfl | h
        · exact .inl rfl
        · exact .inr (.inl h)
      · rcases List.mem_cons.1 h with rfl | h
        · exact .inr (.inl Zs)
        · rcases ih h with h | h | ⟨h, z, hz, h2⟩
          · exact .inl h
          · exact .inr (.inl (by simp [h]))
          · exact .inr (.inr ⟨h, z, by simp [hz], h2⟩)
theorem Ho {l : List Ac} {m : Ac} (h : l.Pairwise Ca) : (maxM l m).Pairwise Ca := by
  induction l with
  | nil => simp [maxM]
  | cons x l ih =>
    rw [List.pairwise_cons] at h
    rw [maxM]
    split
    · exact List.pairwise_cons.2 ⟨fun y hy => (Jb (a := x) rfl).1 (h.1 y hy), h.2⟩
    · rename_i ha
      split
      · rename_i hlt
        refine List.pairwise_cons.2 ⟨fun y hy => ?_, List.pairwise_cons.2 h⟩
        rcases List.mem_cons.1 hy with rfl | hy
        · exact hlt
        · exact Cy hlt (h.1 y hy)
      · rename_i hlt
        have hxm : Ca x m := (JO ha).elim id fun h2 => absurd h2 hlt
        refine List.pairwise_cons.2 ⟨fun y hy => ?_, ih h.2⟩
        rcases Ky hy with rfl | hy | ⟨hy, -⟩
        · exact hxm
        · exact h.1 y hy
        · exact (H9 (c := x) hy).2 hxm
theorem Kz {l:List Ac}{m:Ac}(h:∀x∈l,1≤x.count)(hm:1≤m.count):∀x∈maxM l m,1≤x.count:=by
 intro x hx
 rcases Ky hx with rfl|hx|⟨-,y,hy,-,e⟩
 ·exact hm
 ·exact h x hx
 ·have:=h y hy;omega
theorem KA (l : List Ac) (m : Ac) : (maxM l m).length ≤ l.length + 1 := by
  induction l with
  | nil => simp [maxM]
  | cons x l ih =>
    rw [maxM]
    split
    · simp
    · split <;> simp <;> omega
theorem KC {l : List Ac} {m : Ac} (a : AZ) (c : Int) : (∃ x ∈ maxM l m, x.d.a = a ∧ c ≤ x.count) ↔ (∃ x ∈ l, x.d.a = a ∧ c ≤ x.count) ∨ (m.d.a = a ∧ c ≤ m.count) := by
  induction l with
  | nil => simp [maxM]
  | cons x l ih =>
    rw [maxM]
    split
    · rename_i ha
      constructor
      · rintro ⟨y, hy, h1, h2⟩
        rcases List.mem_cons.1 hy with rfl | hy
        · simp only at h2
          by_cases h3 : c ≤ x.count
          · exact .inl ⟨x, by simp, h1, h3⟩
          · exact .inr ⟨ha ▸ h1, by omega⟩
        · exact .inl ⟨y, by simp [hy], h1, h2⟩
      · rintro (⟨y, hy, h1, h2⟩ | ⟨h1, h2⟩)
        · rcases List.mem_cons.1 hy with rfl | hy
          · exact ⟨_, List.mem_cons_self .., h1, by simp only; omega⟩
          · exact ⟨y, by simp [hy], h1, h2⟩
        · exact ⟨_, List.mem_cons_self .., ha.trans h1, by simp only; omega⟩
    · split
      · constructor
        · rintro ⟨y, hy, h1, h2⟩
          rcases List.mem_cons.1 hy with rfl | hy
          · exact .inr ⟨h1, h2⟩
          · exact .inl ⟨y, hy, h1, h2⟩
        · rintro (⟨y, hy, h1⟩ | h1)
          · exact ⟨y, List.mem_cons_of_mem _ hy, h1⟩
          · exact ⟨m, by simp, h1⟩
      · constructor
        · rintro ⟨y, hy, h1, h2⟩
          rcases List.mem_cons.1 hy with rfl | hy
          · exact .inl ⟨_, by simp, h1, h2⟩
          · rcases ih.1 ⟨y, hy, h1, h2⟩ with ⟨z, hz, h3⟩ | h3
            · exact .inl ⟨z, by simp [hz], h3⟩
            · exact .inr h3
        · rintro (⟨y, hy, h1⟩ | h1)
          · rcases List.mem_cons.1 hy with rfl | hy
            · exact ⟨_, by simp, h1⟩
            · obtain ⟨z, hz, h3⟩ := ih.2 (.inl ⟨y, hy, h1⟩)
              exact ⟨z, by simp [hz], h3⟩
          · obtain ⟨z, hz, h3⟩ := ih.2 (.inr h1)
            exact ⟨z, by simp [hz], h3⟩
structure DU (l M:List Ac):Prop where
 hm:l.Pairwise Ca
 hp:∀m∈l,1≤m.count
 hl:l.length≤M.length
 hr:∀a c,(∃x∈l,x.d.a=a∧c≤x.count)↔∃x∈M,x.d.a=a∧c≤x.count
theorem DU.nil :DU [] []:=⟨List.Pairwise.nil,by simp,by simp,by simp⟩
theorem DU.step {l M:List Ac}{m:Ac}(h:DU l M)(hm:1≤m.count):DU (ED l m) (M++[m]):=by
 rw[MI h.hm]
 refine⟨Ho h.hm,Kz h.hp hm,by have:=KA l m;have:=h.hl;simp;omega,fun a c=> ?_⟩
 rw[KC,h.hr]
 simp only[List.mem_append,List.mem_singleton,or_and_right,exists_or,exists_eq_left]
def ER (d:Ah)(s:List Ah×Bool)(x:Ah):List Ah×Bool:=
 if (s.2=false∧x≠d)∧CK d x then(s.1++[d]++[x],true)else(s.1++[x],s.2||decide (x=d))
def E9 (l:List Ah)(d:Ah):List Ah:=if (l.foldl (ER d) ([],false)).2 then(l.foldl (ER d) ([],false)).1 else(l.foldl (ER d) ([],false)).1++[d]
def insD :List Ah→Ah→List Ah
 |[],d=>[d]
 |x::t,d=>if x=d then x::t else if CK d x then d::x::t else x::insD t d
theorem MJ (l:List Ah)(d:Ah)(out:List Ah):l.foldl (ER d) (out,true)=(out++l,true):=by
 induction l generalizing out with
 |nil=>simp
 |cons x l ih=>rw[List.foldl_cons,ER,if_neg Zs,Bool.true_or,ih];simp
theorem OK (l : List Ah) (d : Ah) (out : List Ah) :
    (if (l.foldl (ER d) (out, false)).2 then (l.foldl (ER d) (out, false)).1 else (l.foldl (ER d) (out, false)).1 ++ [d]) = out ++ insD l d := by
  induction l generalizing out with
  | nil => simp [insD]
  | cons x l ih =>
    rw [List.foldl_cons, insD]
    by_cases he : x = d
    · have e : ER d (out, false) x = (out ++ [x], true) := by rw [ER, if_neg (by simp [he]), decide_eq_true he, Bool.or_true]
      rw [e, if_pos he, MJ]; simp
    · rw [if_neg he]
      by_cases hl : CK d x
      · have e : ER d (out, false) x = (out ++ [d] ++ [x], true) := by rw [ER, if_pos ⟨⟨rfl, he⟩, hl⟩]
        rw [e, if_pos hl, MJ]; simp
      · have e : ER d (out, false) x = (out ++ [x], false) := by rw [ER, if_neg (by simp [hl]), decide_eq_false he, Bool.or_false]
        rw [e, if_neg hl, ih]; simp
theorem Qo (l:List Ah)(d:Ah):E9 l d=insD l d:=by
 have:=OK l d []
 simpa[E9]using this
theorem KD {l : List Ah} {d x : Ah} : x ∈ insD l d ↔ x ∈ l ∨ x = d := by
  induction l with
  | nil => simp [insD]
  | cons y l ih =>
    rw [insD]
    split
    · rename_i h; subst h; simp only [List.mem_cons]; constructor
      · exact .inl
      · rintro (h | rfl)
        · exact h
        · exact .inl rfl
    · split
      · simp only [List.mem_cons]; constructor
        · rintro (h | h)
          · exact .inr h
          · exact .inl h
        · rintro (h | h)
          · exact .inr h
          · exact .inl h
      · simp only [List.mem_cons, ih, or_assoc]
theorem KE {l : List Ah} {d : Ah} (h : l.Pairwise CK) : (insD l d).Pairwise CK := by
  induction l with
  | nil => simp [insD]
  | cons x l ih =>
    have h0 := h
    rw [List.pairwise_cons] at h
    rw [insD]
    split
    · exact h0
    · rename_i he
      split
      · rename_i hlt
        refine List.pairwise_cons.2 ⟨fun y hy => ?_, h0⟩
        rcases List.mem_cons.1 hy with rfl | hy
        · exact hlt
        · exact EP hlt (h.1 y hy)
      · rename_i hlt
        refine List.pairwise_cons.2 ⟨fun y hy => ?_, ih h.2⟩
        rcases KD.1 hy with hy | rfl
        · exact h.1 y hy
        · exact Decidable.byContradiction fun h2 => he (HB h2 hlt)
theorem OL (l : List Ah) (d : Ah) : (insD l d).length ≤ l.length + 1 := by
  induction l with
  | nil => simp [insD]
  | cons x l ih =>
    rw [insD]
    split
    · simp
    · split <;> simp <;> omega
structure DV (l D:List Ah):Prop where
 hs:l.Pairwise CK
 hl:l.length≤D.length
 hr:∀x,x∈l↔x∈D
theorem DV.nil :DV [] []:=⟨List.Pairwise.nil,by simp,by simp⟩
theorem DV.step {l D:List Ah}(h:DV l D)(d:Ah):DV (E9 l d) (D++[d]):=by
 rw[Qo]
 exact⟨KE h.hs,by have:=OL l d;have:=h.hl;simp;omega,fun x=>by rw[KD,h.hr];simp⟩
structure SS where
 ms:List Ac
 left:List Ah
 again:Bool
def If (s:SS)(d:Ah):SS:=
 if d.count≤B1 s.ms d.a then s else if d.count=B1 s.ms d.a+1 then⟨ED s.ms d.m,s.left,true⟩else⟨s.ms,s.left++[d],s.again⟩
structure ES (M:List Ac)(D:List Ah)(ms:List Ac)(ds:List Ah):Prop where
 hm:ms.Pairwise Ca
 hp:∀m∈ms,1≤m.count
 hs:ds.Pairwise CK
 hd:∀d∈ds,1≤d.count
 hl:ms.length+ds.length≤M.length+D.length
 hr:∀d,Gw ms ds d↔Gw M D d
structure Eh (ms0:List Ac)(ds:List Ah)(s:SS)(i:Nat):Prop where
 hm:s.ms.Pairwise Ca
 hp:∀m∈s.ms,1≤m.count
 hsub:s.left.Sublist (ds.take i)
 hlen:s.ms.length+s.left.length≤ms0.length+(ds.take i).length
 hr:∀d,Gw s.ms s.left d↔Gw ms0 (ds.take i) d
 hag:s.again=true→s.left.length<(ds.take i).length
 hno:s.again=false→∀d∈s.left,B1 s.ms d.a+1<d.count
theorem Eh.zero {ms:List Ac}(ds:List Ah)(hm:ms.Pairwise Ca)(hp:∀m∈ms,1≤m.count):Eh ms ds ⟨ms,[],false⟩ 0:=
 ⟨hm,hp,by simp,by simp,by simp,by simp,by simp⟩
theorem MK {ms:List Ac}(h:ms.Pairwise Ca){a:AZ}{c:Int}(hc:1≤c):(∃m∈ms,m.d.a=a∧c≤m.count)↔c≤B1 ms a:=by
 constructor
 ·rintro⟨m,hm,rfl,h2⟩;rw[E6 h hm];exact h2
 ·intro h2;obtain⟨m,hm,h3,h4⟩:=D5 (ms:=ms) (a:=a) Zo;exact⟨m,hm,h3,by omega⟩
theorem Eh.step {ms0:List Ac}{ds:List Ah}{s:SS}{i:Nat}{d:Ah}(h:Eh ms0 ds s i)(hd:ds[i]? =some d)(hc:1≤d.count):Eh ms0 ds (If s d) (i+1):=by
 obtain⟨hi,rfl⟩:=List.getElem?_eq_some_iff.1 hd
 have ht:=List.take_succ_eq_append_getElem hi
 have hl:(ds.take (i+1)).length=(ds.take i).length+1:=by rw[ht,List.length_append,List.length_singleton]
 have hraw:∀x,Gw ms0 (ds.take (i+1)) x↔Gw ms0 (ds.take i) x∨x=ds[i]:=fun x=>by
  rw[ht];simp only[Gw,List.mem_append,List.mem_singleton]
  constructor
  ·rintro⟨h1,h2|h2|h2⟩
   ·exact .inl ⟨h1,.inl h2⟩
   ·exact .inl ⟨h1,.inr h2⟩
   ·exact .inr h2
  ·rintro(⟨h1,h2|h2⟩|rfl)
   ·exact⟨h1,.inl h2⟩
   ·exact⟨h1,.inr (.inl h2)⟩
   ·exact⟨hc,.inr (.inr rfl)⟩
 unfold If
 split
 ·rename_i h1
  refine⟨h.hm,h.hp,ht▸h.hsub.trans (List.sublist_append_left ..),by have:=h.hlen;omega,fun x=> ?_,fun e=>by have:=h.hag e;omega,h.hno⟩
  rw[hraw,←h.hr]
  constructor
  ·exact .inl
  ·rintro(h2|rfl)
   ·exact h2
   ·exact⟨hc,.inl ((MK h.hm hc).2 h1)⟩
 ·split
  ·rename_i h1 h2
   rw[MI h.hm]
   refine⟨Ho h.hm,Kz h.hp hc,ht▸h.hsub.trans (List.sublist_append_left ..),by have:=KA s.ms ds[i].m;have:=h.hlen;simp only;omega,fun x=> ?_,fun _=>by have:=h.hsub.length_le;simp only;omega,fun e=>by cases e⟩
   rw[hraw,←h.hr]
   simp only[Gw,KC]
   constructor
   ·rintro⟨h3,(h4|⟨h4,h5⟩)|h4⟩
    ·exact .inl ⟨h3,.inl h4⟩
    ·replace h4:ds[i].a=x.a:=h4
     replace h5:x.count≤ds[i].count:=h5
     by_cases h6:x.count=ds[i].count
     ·right;simp only[Ah.a,AZ.mk.injEq]at h4;exact Ah.eta h4.1.symm h4.2.symm h6
     ·exact .inl ⟨h3,.inl ((MK h.hm h3).2 (by rw[←h4];omega))⟩
    ·exact .inl ⟨h3,.inr h4⟩
   ·rintro(⟨h3,h4|h4⟩|rfl)
    ·exact⟨h3,.inl (.inl h4)⟩
    ·exact⟨h3,.inr h4⟩
    ·exact⟨hc,.inl (.inr ⟨rfl,Int.le_refl _⟩)⟩
  ·rename_i h1 h2
   refine⟨h.hm,h.hp,ht▸h.hsub.append (List.Sublist.refl _),by have:=h.hlen;rw[hl,List.length_append,List.length_singleton];simp only;omega,fun x=> ?_,fun e=>by have:=h.hag e;rw[hl,List.length_append,List.length_singleton];omega,fun e x hx=> ?_⟩
   ·rw[hraw,←h.hr]
    simp only[Gw,List.mem_append,List.mem_singleton]
    constructor
    ·rintro⟨h3,h4|h4|h4⟩
     ·exact .inl ⟨h3,.inl h4⟩
     ·exact .inl ⟨h3,.inr h4⟩
     ·exact .inr h4
    ·rintro(⟨h3,h4|h4⟩|rfl)
     ·exact⟨h3,.inl h4⟩
     ·exact⟨h3,.inr (.inl h4)⟩
     ·exact⟨hc,.inr (.inr rfl)⟩
   ·rcases List.mem_append.1 hx with hx|hx
    ·exact h.hno e x hx
    ·simp only[List.mem_singleton]at hx;subst hx;simp only;omega
theorem ES.start {M l:List Ac}{D k:List Ah}(h:DU l M)(hk:DV k D)(hD:∀d∈D,1≤d.count):ES M D l k:=
 ⟨h.hm,h.hp,hk.hs,fun d hd=>hD d ((hk.hr d).1 hd),by have:=h.hl;have:=hk.hl;omega,fun d=>by simp only[Gw,h.hr,hk.hr]⟩
theorem ES.round {M ms:List Ac}{D ds:List Ah}{s:SS}(h:ES M D ms ds)(hr:Eh ms ds s ds.length):ES M D s.ms s.left:=by
 have hs:=hr.hsub;rw[List.take_length]at hs
 refine⟨hr.hm,hr.hp,h.hs.sublist hs,fun d hd=>h.hd d (hs.subset hd),by have h1:=hr.hlen;have:=h.hl;rw[List.take_length]at h1;omega,fun d=> ?_⟩
 rw[hr.hr,List.take_length];exact h.hr d
theorem ES.done {M ms:List Ac}{D ds:List Ah}(h:ES M D ms ds)(hM:∀m∈M,1≤m.count)(hD:∀d∈D,1≤d.count)(hn:∀d∈ds,B1 ms d.a+1<d.count):BI M D=(ms,ds):=
 have hc:BS ms ds:=⟨h.hm,h.hp,h.hs,hn⟩
 OI hM hD hc (hc.of_raw h.hr)
def Fq (ms:List Ac)(cl:List Ah)(ms':List Ac)(cl':List Ah):Prop:=(∀m∈ms,m.count≤B1 ms' m.d.a)∧∀d∈cl,CP ms' cl' d
instance (ms :List Ac)(cl:List Ah)(ms':List Ac)(cl':List Ah):Decidable (Fq ms cl ms' cl'):=by unfold Fq;infer_instance
theorem BS.next {ms:List Ac}{cl:List Ah}(h:BS ms cl){d:Ah}(hd:d.count=B1 ms d.a+1):¬d∈cl:=fun hm=>by have:=h.hg d hm;omega
theorem JQ {ms:List Ac}(h:∀i,Re ms i)(a:AZ):0≤B1 ms a∧B1 ms a≤1099511627776:=by
 by_cases hz:B1 ms a=0
 ·omega
 ·obtain⟨m,hm,-,e⟩:=D5 hz
  obtain⟨j,hj,rfl⟩:=List.getElem_of_mem hm
  have:=(h j _ (List.getElem?_eq_getElem hj)).1
  simp only[AO,Ac.d]at this
  omega
theorem FK {ms:List Ac}{i:Nat}(h:∀j,j<i→Re ms j)(hi:ms.length≤i):∀j,Re ms j:=fun j m hm=>by
 obtain⟨hj,-⟩:=List.getElem?_eq_some_iff.1 hm
 exact h j Zo m hm
theorem ML {ms:List Ac}{cl:List Ah}{i:Nat}(h:∀j,j<i→Sj ms cl j)(hi:cl.length≤i):∀j,Sj ms cl j:=fun j d hd=>by
 obtain⟨hj,-⟩:=List.getElem?_eq_some_iff.1 hd
 exact h j Zo d hd
theorem Bq {p:Nat→Prop}{i:Nat}(h:∀j,j<i→p j)(hi:p i):∀j,j<i+1→p j:=fun j hj=>by
 by_cases e:j=i
 ·subst e;exact hi
 ·exact h j Zo
theorem DL {i:Nat}(h:0<i):(((i:Nat):Int)-1).toNat=i-1:=by omega
theorem Ss {ms:List Ac}{i:Nat}{m x:Ac}(hm:ms[i]? =some m)(hi:0<i)(hx:ms[i-1]? =some x)(h:¬Ca x m):¬Re ms i:=fun ho=>h ((ho m hm).2 hi x hx)
theorem S0 {ms:List Ac}{i:Nat}{m:Ac}(hm:ms[i]? =some m)(h1:AO m.d)(h2:0<i→∀x,ms[i-1]? =some x→Ca x m):Re ms i:=fun m' hm'=>by
 rw[hm]at hm';cases hm';exact⟨h1,h2⟩
theorem S1 {ms:List Ac}{cl:List Ah}{i:Nat}{d:Ah}(hd:cl[i]? =some d)(h1:AO d)(h2:0<i→∀x,cl[i-1]? =some x→CK x d)(h3:B1 ms d.a+1<d.count):Sj ms cl i:=fun d' hd'=>by
 rw[hd]at hd';cases hd';exact⟨h1,h2,h3⟩
theorem JR {α:Type}{xs:List α}{i:Nat}{x y:α}{p:α→Prop}(hx:xs[i]? =some x)(h:p x)(hy:xs[i]? =some y):p y:=by rw[hx]at hy;cases hy;exact h
theorem MM {x m:Ac}(h:0≤B9 ⟨x.node,x.life,0⟩ ⟨m.node,m.life,0⟩):¬Ca x m:=OE.1 h
theorem KF {x m:Ac}(h:B9 ⟨x.node,x.life,0⟩ ⟨m.node,m.life,0⟩<0):Ca x m:=Decidable.byContradiction fun h2=>absurd (OE.2 h2) (Int.not_le.2 h)
attribute [local irreducible] AO FW CK Ca B9 B1 CP D6
attribute [local irreducible] X
theorem RI (am:Option Addr)(ms:List Ac)(cm:Nat)(ac:Option Addr)(cl:List Ah)(cc:Nat)(w:World)(hs:At w am ms)(ht:At w ac cl)(hl:ms.length≤4294967295)(hl2:cl.length≤4294967295):
  Calls prog 86 #[.agg #[.slice am ms.length cm,.slice ac cl.length cc]] w (AU (fun v w'=>v= .bool (Cr ms cl)∧As w w')):=by
 refine Af (n:=88) func86 rfl rfl rfl ?_;refine jG ?_;refine jR<|jB ?_;intro a3 aI au a0 aD;have:w.heap.size≤a3:=au;clear au;have K0:=(aD:As w _);refine jG ?_;refine jV (Ba rfl rfl rfl) ?_;refine jG ?_;refine jF ?_ ?_
 ·intro hc17
  refine jG ?_;refine jJ func86 ?_;exact⟨_,rfl,by rw[C5 (fun h=>by have:=h.1;have:=h.2.1;omega)],K0⟩
 ·intro hc17
  have hl64:ms.length≤64:=by omega
  have hl65:cl.length≤64:=by omega
  refine jG ?_;refine Al.loop (ι:=Nat) (fun i ρ' w'=>AG ρ' [(1,jp a3),(19,.slice am ms.length cm),(20,.int .i64 ((ms.length:Nat):Int)),(21,.int .i64 ((i:Nat):Int))]∧As w w'∧(AI w' a3 [.slice am ms.length cm,.slice ac cl.length cc] 27)∧(i≤ms.length)∧(∀j,j<i→Re ms j)) (fun i=>ms.length-i) 0 ?_ ?_
  ·refine⟨⟨rfl,rfl,rfl,rfl,trivial⟩,K0,a0,?_,?_⟩
   ·omega
   ·exact fun j hj=>absurd hj (Nat.not_lt_zero j)
  clear a0;clear K0;rintro i aJ aK ⟨av,K0,a0,hi,hk⟩ ih1;obtain⟨ρ₀,rfl⟩:=av.ex;clear av;refine jG ?_;refine jF ?_ ?_
  ·intro hc22
   refine Cc ?_;obtain⟨aL,aM,m,hm,aE,a5⟩:=hs.eo i;have hc_12_lt:=a5.lt;refine jV (AQ underlying24 ty112 rfl rfl aE Zl) ?_;replace a5:=a5.ext K0;refine jG ?_;refine jR<|jA ?_;intro aN aO a6 a2 aw;have aP:=Aj a0.lt a6;have aQ:=Aj a5.lt a6;have:=Nat.le_trans K0.size a6;clear a6;refine jG ?_;refine jR<|jS a2 ?_;intro aR a2 ax;refine jG ?_;refine jR<|jC (G3 m _) ?_;rintro _ aS ⟨rfl,ab⟩;refine jR<|jC (Ny (Ac.d m) _) ?_;rintro _ aT ⟨rfl,ad⟩;refine jG ?_;replace a0:=(((a0.ext aw).kp ax).ext ab).ext ad;replace K0:=(((K0.ext aw).n1 ax).ext ab).ext ad;replace a2:=(a2.ext ab).ext ad;refine jF ?_ ?_
   ·intro hc29
    refine jG ?_;refine jJ func86 ?_;exact⟨_,rfl,by rw[C5 (fun h=>hc29 (h.2.2.1 i m hm).1)],K0⟩
   ·intro hc29
    refine jG ?_;refine jF ?_ ?_
    ·intro hc31
     refine jG ?_;refine jV (B6 rfl rfl Zo Zo) ?_;obtain⟨aU,aV,x,hx,aF,a7⟩:=hs.el (i:=(((i:Nat):Int)-1).toNat) Zl;have hc_31_lt:=a7.lt;refine jV (C7 underlying24 ty112 rfl rfl aF Zo Zl) ?_;replace a7:=a7.ext K0;refine jG ?_;refine jR<|jA ?_;intro aW aX a4 ay ae;have aY:=Aj a0.lt a4;have aZ:=Aj a2.lt a4;have b0:=Aj a7.lt a4;have:=Nat.le_trans K0.size a4;clear a4;refine jR<|jS ay ?_;intro b1 ay af;have hxm:=(hk _ Zo x hx).1;refine jG ?_;refine jV (Ar (cells:=#[.int .i64 ((x).node),.int .i64 ((x).life),.int .i64 0]) Zk) ?_;replace a2:=(a2.ext ae).kp af;refine jG ?_;refine jV (Ar (cells:=#[.int .i64 ((m).node),.int .i64 ((m).life),.int .i64 0]) Zk) ?_;refine jR<|jC (LK (⟨(x).node,(x).life,0⟩:Ah) (⟨(m).node,(m).life,0⟩:Ah) _ (AO.z hxm) (AO.z hc29)) ?_;rintro _ b2 ⟨rfl,az⟩;refine jG ?_;replace a0:=((a0.ext ae).kp af).ext az;replace K0:=((K0.ext ae).n1 af).ext az;refine jF ?_ ?_
     ·intro hc49
      refine jG ?_;refine jJ func86 ?_;exact⟨_,rfl,by rw[C5 (fun h=>Ss hm Zo (by rw[←DL Zo];exact hx) (MM hc49) (h.2.2.1 i))],K0⟩
     ·intro hc49
      refine jG ?_;refine jV (Ay (c:=((i+1:Nat):Int)) (Aq rfl rfl Zo Zo) rfl) ?_;refine jG ?_;refine ih1 (i+1) _ _ ?_ Zo;refine⟨⟨rfl,rfl,rfl,rfl,trivial⟩,K0,a0,?_,?_⟩
      ·omega
      ·exact Bq hk (S0 hm hc29 (fun h_ _=>JR (p:=fun y=>Ca y m) (by rw[←DL Zo];exact hx) (KF hc49)))
    ·intro hc31
     refine jG ?_;refine jV (Ay (c:=((i+1:Nat):Int)) (Aq rfl rfl Zo Zo) rfl) ?_;refine jG ?_;refine ih1 (i+1) _ _ ?_ Zo;refine⟨⟨rfl,rfl,rfl,rfl,trivial⟩,K0,a0,?_,?_⟩
     ·omega
     ·exact Bq hk (S0 hm hc29 (fun h_=>absurd h_ Zo))
  ·intro hc22
   refine jG ?_;refine Al.loop (ι:=Nat) (fun i ρ' w'=>AG ρ' [(1,jp a3),(52,.slice ac cl.length cc),(53,.int .i64 ((cl.length:Nat):Int)),(54,.int .i64 ((i:Nat):Int))]∧As w w'∧(AI w' a3 [.slice am ms.length cm,.slice ac cl.length cc] 27)∧(i≤cl.length)∧(∀j,j<i→Sj ms cl j)) (fun i=>cl.length-i) 0 ?_ ?_
   ·refine⟨⟨rfl,rfl,rfl,rfl,trivial⟩,K0,a0,?_,?_⟩
    ·omega
    ·exact fun j hj=>absurd hj (Nat.not_lt_zero j)
   clear a0;clear K0;rintro i b3 b4 ⟨aA,K0,a0,hi,hk2⟩ ih2;obtain⟨ρ₀,rfl⟩:=aA.ex;clear aA;refine jG ?_;refine jF ?_ ?_
   ·intro hc55
    refine Cc ?_;obtain⟨b5,b6,d,hd,aG,a8⟩:=ht.eo i;have hc_52_lt:=a8.lt;refine jV (AQ underlying25 ty87 rfl rfl aG Zl) ?_;replace a8:=a8.ext K0;refine jG ?_;refine jR<|jA ?_;intro b7 b8 a9 a1 aB;have b9:=Aj a0.lt a9;have ba:=Aj a8.lt a9;have:=Nat.le_trans K0.size a9;clear a9;refine jG ?_;refine jR<|jS a1 ?_;intro bb a1 aC;refine BP ?_;replace a0:=(a0.ext aB).kp aC;replace K0:=(K0.ext aB).n1 aC;by_cases hA:AO d
    ·by_cases hB:0<i
     ·have hmk:=JQ (FK hk Zo) d.a
      refine Al.drawS [] [1000,2001,2,3,4,5,6,7,1008,9,10,11,1013,2012,2014,15,16,17,18,19,1020,1021,1022,2023,2024,25,26,27] ?_;intro bc ag;replace a0:=a0.ext ag;replace a1:=a1.ext ag;refine jM (jb a0 (jb a1 Jn)) ?_;refine jG ?_;refine jU rfl<|jC (Ny d _) ?_;rintro _ be ⟨rfl,ah⟩;replace a0:=a0.ext ah;replace a1:=a1.ext ah;refine BP ?_;refine jP ?_ (hx:=by exact fun _=>(AR (AS rfl) (by simp[hA])));refine CU ?_;refine jQ ?_ (hx:=by exact fun _ hg=>(A3 (DH rfl rfl) Zi));refine jG ?_;refine jQ ?_ (hx:=by exact fun _ hg=>(B6 rfl rfl Zo Zo));obtain⟨bg,bh,x,hx,aH,aa⟩:=ht.el (i:=(((i:Nat):Int)-1).toNat) Zl;have hc_71_lt:=aa.lt;replace K0:=(K0.ext ag).ext ah;refine jQ ?_ (hx:=by exact fun _ hg=>(C7 underlying25 ty87 rfl rfl aH Zo Zl));refine jG ?_;replace aa:=aa.ext K0;refine jX rfl<|jO (CD (v:= .agg #[.int .i64 ((x).node),.int .i64 ((x).life),.int .i64 ((x).count)]) (y:=x) ty87 rfl aa rfl) ?_;refine jG ?_;refine jX rfl<|jC (LK x d _ (hk2 _ Zo x hx).1.sm hA.sm) ?_;rintro _ bi ⟨rfl,ai⟩;replace a0:=a0.ext ai;replace a1:=a1.ext ai;refine jG ?_;refine jQ ?_ (hx:=by exact fun _ hg=>(BA rfl rfl rfl));refine jP ?_ (hx:=by exact fun _=>(Bi rfl rfl rfl));refine jG ?_;refine jZ (fun hg=>(Fw d _)) ?_;intro bj aj;replace a0:=a0.ext aj;replace a1:=a1.ext aj;refine jG ?_;replace K0:=(K0.ext ai).ext aj;refine jZ (fun hg=>(Kv am ms cm ac cl cc (Ah.a d) _ (hs.ext K0) (ht.ext K0) Zo Zo)) ?_;intro bk ak;replace a0:=a0.ext ak;replace a1:=a1.ext ak;refine jG ?_;refine jQ ?_ (hx:=by exact fun _ hg=>(Aq (Bh hg) rfl Zo Zo));refine jG ?_;refine jP ?_ (hx:=by exact fun _=>(Ba rfl rfl rfl));refine jG ?_;replace K0:=K0.ext ak;refine jF ?_ ?_
      ·intro hc86
       refine jG ?_;refine jJ func86 ?_;exact⟨_,rfl,by rw[C5 (fun h=>hc86.elim (fun h4=>absurd ((h.2.2.2 i d hd).2.1 Zo x (by rw[←DL Zo];exact hx)) (MC.1 h4)) (fun h4=>absurd h4 (Int.not_le.2 (h.2.2.2 i d hd).2.2)))],K0⟩
      ·intro hc86
       refine jG ?_;refine jV (Ay (c:=((i+1:Nat):Int)) (Aq rfl rfl Zo Zo) rfl) ?_;refine jG ?_;refine ih2 (i+1) _ _ ?_ Zo;refine⟨⟨rfl,rfl,rfl,rfl,trivial⟩,K0,a0,?_,?_⟩
       ·omega
       ·exact Bq hk2 (S1 hd hA (fun h_ _=>JR (p:=fun y=>CK y d) (by rw[←DL Zo];exact hx) (DD.1 hc86.1)) hc86.2)
     ·have hmk:=JQ (FK hk Zo) d.a
      refine Al.drawS [] [1000,2001,2,3,4,5,6,7,8,9,10,11,12,13,2014,15,16,17,18,19,1020,1021,1022,2023,2024,25,26,27] ?_;intro bl al;replace a0:=a0.ext al;replace a1:=a1.ext al;refine jM (jb a0 (jb a1 Jn)) ?_;refine jG ?_;refine jU rfl<|jC (Ny d _) ?_;rintro _ bm ⟨rfl,an⟩;replace a0:=a0.ext an;replace a1:=a1.ext an;refine BP ?_;refine jP ?_ (hx:=by exact fun _=>(AR (AS rfl) (by simp[hA])));refine CU ?_;refine jQ ?_ (hx:=by exact fun _ hg=>(AR (DH rfl rfl) Zi));refine jG ?_;refine jY ?_;refine jG ?_;refine jQ ?_ (hx:=by exact fun _ hg=>(AN (b:=false) (e:=false) rfl rfl rfl));refine jP ?_ (hx:=by exact fun _=>(Bi rfl rfl rfl));refine jG ?_;refine jX rfl<|jC (Fw d _) ?_;rintro _ bn ⟨rfl,ao⟩;replace a0:=a0.ext ao;replace a1:=a1.ext ao;refine jG ?_;replace K0:=((K0.ext al).ext an).ext ao;refine jX rfl<|jC (Kv am ms cm ac cl cc (Ah.a d) _ (hs.ext K0) (ht.ext K0) Zo Zo) ?_;rintro _ bo ⟨rfl,ap⟩;replace a0:=a0.ext ap;replace a1:=a1.ext ap;refine jG ?_;refine jQ ?_ (hx:=by exact fun _ hg=>(Aq rfl rfl Zo Zo));refine jG ?_;refine jP ?_ (hx:=by exact fun _=>(Bi rfl rfl rfl));refine jG ?_;replace K0:=K0.ext ap;refine jF ?_ ?_
      ·intro hc86
       refine jG ?_;refine jJ func86 ?_;exact⟨_,rfl,by rw[C5 (fun h=>absurd hc86 (Int.not_le.2 (h.2.2.2 i d hd).2.2))],K0⟩
      ·intro hc86
       refine jG ?_;refine jV (Ay (c:=((i+1:Nat):Int)) (Aq rfl rfl Zo Zo) rfl) ?_;refine jG ?_;refine ih2 (i+1) _ _ ?_ Zo;refine⟨⟨rfl,rfl,rfl,rfl,trivial⟩,K0,a0,?_,?_⟩
       ·omega
       ·exact Bq hk2 (S1 hd hA (fun h_=>absurd h_ Zo) hc86)
    ·skip
     refine Al.drawS [] [1000,2001,2,3,4,5,6,7,8,9,10,11,12,13,2014,15,16,17,18,19,20,21,22,2023,2024,25,26,27] ?_;intro bp aq;replace a0:=a0.ext aq;replace a1:=a1.ext aq;refine jM (jb a0 (jb a1 Jn)) ?_;refine jG ?_;refine jU rfl<|jC (Ny d _) ?_;rintro _ bq ⟨rfl,ar⟩;replace a0:=a0.ext ar;replace a1:=a1.ext ar;refine BP ?_;refine jP ?_ (hx:=by exact fun _=>(A3 (AS rfl) (by simp[hA])));refine jG ?_;refine jY ?_;refine jG ?_;refine jP ?_ (hx:=by exact fun _=>(Ba (b:=true) (e:=false) rfl rfl rfl));refine jG ?_;refine jY ?_;refine jG ?_;refine jY ?_;refine jG ?_;refine jP ?_ (hx:=by exact fun _=>(Ba (b:=true) (e:=false) rfl rfl rfl));refine jG ?_;refine CE ?_;refine jG ?_;refine jJ func86 ?_;replace K0:=(K0.ext aq).ext ar;exact⟨_,rfl,by rw[C5 (fun h=>hA (h.2.2.2 i d hd).1)],K0⟩
   ·intro hc55
    refine jG ?_;refine jJ func86 ?_;exact⟨_,rfl,by rw[Ku ⟨hl64,hl65,FK hk Zo,ML hk2 Zo⟩],K0⟩
theorem OM (am:Option Addr)(ms:List Ac)(cm:Nat)(ac:Option Addr)(cl:List Ah)(cc:Nat)(w:World)(hs:At w am ms)(ht:At w ac cl)(hl:ms.length≤4294967295)(hl2:cl.length≤4294967295):
  Calls prog 36 #[.agg #[.slice am ms.length cm,.slice ac cl.length cc]] w (AU (fun v w'=>v= .bool (Cr ms cl)∧As w w')):=by
 refine Af (n:=105) func36 rfl rfl rfl ?_;refine jG ?_;refine jR<|jB ?_;intro a5 aM ao a0 ay;have:w.heap.size≤a5:=ao;clear ao;have K0:=(ay:As w _);refine jG ?_;refine jV (Ba rfl rfl rfl) ?_;refine jG ?_;refine jF ?_ ?_
 ·intro hc16
  refine jG ?_;refine jJ func36 ?_;exact⟨_,rfl,by rw[C5 (fun h=>by have:=h.1;have:=h.2.1;omega)],K0⟩
 ·intro hc16
  have hl64:ms.length≤64:=by omega
  have hl65:cl.length≤64:=by omega
  refine jG ?_;refine Al.loop (ι:=Nat) (fun i ρ' w'=>AG ρ' [(1,jp a5),(18,.slice am ms.length cm),(19,.int .i64 ((ms.length:Nat):Int)),(20,.int .i64 ((i:Nat):Int))]∧As w w'∧(AI w' a5 [.slice am ms.length cm,.slice ac cl.length cc] 27)∧(i≤ms.length)∧(∀j,j<i→Re ms j)) (fun i=>ms.length-i) 0 ?_ ?_
  ·refine⟨⟨rfl,rfl,rfl,rfl,trivial⟩,K0,a0,?_,?_⟩
   ·omega
   ·exact fun j hj=>absurd hj (Nat.not_lt_zero j)
  clear a0;clear K0;rintro i aN aO ⟨ap,K0,a0,hi,hk⟩ ih1;obtain⟨ρ₀,rfl⟩:=ap.ex;clear ap;refine jG ?_;refine jF ?_ ?_
  ·intro hc21
   refine Cc ?_;obtain⟨aP,aQ,m,hm,az,a6⟩:=hs.eo i;have hc_12_lt:=a6.lt;refine jV (AQ underlying24 ty112 rfl rfl az Zl) ?_;replace a6:=a6.ext K0;refine jG ?_;refine jR<|jA ?_;intro aR aS a7 a2 aq;have aT:=Aj a0.lt a7;have aU:=Aj a6.lt a7;have:=Nat.le_trans K0.size a7;clear a7;refine jG ?_;refine jR<|jS a2 ?_;intro aV a2 ar;refine jG ?_;refine jR<|jC (OH m _) ?_;rintro _ aW ⟨rfl,ag⟩;refine jG ?_;replace a0:=((a0.ext aq).kp ar).ext ag;replace K0:=((K0.ext aq).n1 ar).ext ag;replace a2:=a2.ext ag;refine jF ?_ ?_
   ·intro hc27
    refine jG ?_;refine jJ func36 ?_;exact⟨_,rfl,by rw[C5 (fun h=>hc27 (h.2.2.1 i m hm).1)],K0⟩
   ·intro hc27
    refine BP ?_;by_cases hB:0<i
    ·obtain⟨aX,aA,x,hx,aB,a8⟩:=hs.el (i:=(((i:Nat):Int)-1).toNat) Zl
     have hc_31_lt:=a8.lt;obtain⟨aY,aC,aD,aE,aF,a9⟩:=hs.el (i:=(((i:Nat):Int)-1).toNat) Zl;have hc_37_lt:=a9.lt;obtain rfl:x=aD:=Option.some.inj (hx.symm.trans aE);obtain⟨aZ,aG,aH,aI,aJ,aa⟩:=hs.el (i:=(((i:Nat):Int)-1).toNat) Zl;have hc_43_lt:=aa.lt;obtain rfl:x=aH:=Option.some.inj (hx.symm.trans aI);refine Al.drawR ?_;intro b0 a3;refine Cc ?_;refine jD (A3 (DH rfl rfl) Zi) ?_;replace a0:=a0.ext a3;refine jG ?_;refine jE ?_ (hx:=by exact fun hg=>(B6 rfl rfl Zo Zo));refine jE ?_ (hx:=by exact fun hg=>(C7 underlying24 ty112 rfl rfl aB Zo Zl));refine jE ?_ (hx:=by exact fun hg=>(CS (o':=aA+(((i:Nat):Int)-1).toNat*3+0) underlying112 rfl ty3 rfl rfl rfl));replace a8:=(a8.ext K0).ext a3;refine jE ?_ (hx:=by exact fun hg=>(Dl ty3 rfl rfl (a8.field (i:=0) rfl)));replace a2:=a2.ext a3;refine jG ?_;refine jE ?_ (hx:=by exact fun hg=>(B6 (Bh hg) rfl Zo Zo));refine jE ?_ (hx:=by exact fun hg=>(C7 underlying24 ty112 (Bh hg) (Bh hg) aF Zo Zl));refine jE ?_ (hx:=by exact fun hg=>(CS (o':=aC+(((i:Nat):Int)-1).toNat*3+0) underlying112 rfl ty3 rfl (Bh hg) rfl));replace a9:=(a9.ext K0).ext a3;refine jE ?_ (hx:=by exact fun hg=>(Dl ty3 (Bh hg) rfl (a9.field (i:=0) rfl)));refine jG ?_;refine jE ?_ (hx:=by exact fun hg=>(B6 (Bh hg) rfl Zo Zo));refine jE ?_ (hx:=by exact fun hg=>(C7 underlying24 ty112 (Bh hg) (Bh hg) aJ Zo Zl));refine jE ?_ (hx:=by exact fun hg=>(CS (o':=aG+(((i:Nat):Int)-1).toNat*3+1) underlying112 rfl ty3 rfl (Bh hg) rfl));replace aa:=(aa.ext K0).ext a3;refine jE ?_ (hx:=by exact fun hg=>(Dl ty3 (Bh hg) rfl (aa.field (i:=1) rfl)));refine jG ?_;refine jE ?_ (hx:=by exact fun hg=>(HZ hg rfl rfl rfl));refine jE ?_ (hx:=by exact fun hg=>(Ba rfl rfl rfl));refine jD (BA rfl rfl rfl) ?_;refine jG ?_;replace K0:=K0.ext a3;refine jF ?_ ?_
     ·intro hc65
      refine jG ?_;refine jJ func36 ?_;exact⟨_,rfl,by rw[C5 (fun h=>Ss hm hB (by rw[←DL Zo];exact hx) (by unfold Ca;omega) (h.2.2.1 i))],K0⟩
     ·intro hc65
      refine jG ?_;refine jV (Ay (c:=((i+1:Nat):Int)) (Aq rfl rfl Zo Zo) rfl) ?_;refine jG ?_;refine ih1 (i+1) _ _ ?_ Zo;refine⟨⟨rfl,rfl,rfl,rfl,trivial⟩,K0,a0,?_,?_⟩
      ·omega
      ·exact Bq hk (S0 hm hc27 (fun h_ _=>JR (p:=fun y=>Ca y m) (by rw[←DL Zo];exact hx) (by unfold Ca;omega)))
    ·refine Al.drawR ?_
     intro b1 au;refine Cc ?_;refine jD (AR (DH rfl rfl) Zi) ?_;refine jG ?_;refine jD (AN (b:=false) (e:=false) rfl rfl rfl) ?_;refine jG ?_;refine Al.condF rfl ?_;refine jG ?_;refine jV (Ay (c:=((i+1:Nat):Int)) (Aq rfl rfl Zo Zo) rfl) ?_;refine jG ?_;refine ih1 (i+1) _ _ ?_ Zo;replace a0:=a0.ext au;replace K0:=K0.ext au;refine⟨⟨rfl,rfl,rfl,rfl,trivial⟩,K0,a0,?_,?_⟩
     ·omega
     ·exact Bq hk (S0 hm hc27 (fun h_=>absurd h_ Zo))
  ·intro hc21
   refine jG ?_;refine Al.loop (ι:=Nat) (fun i ρ' w'=>AG ρ' [(1,jp a5),(68,.slice ac cl.length cc),(69,.int .i64 ((cl.length:Nat):Int)),(70,.int .i64 ((i:Nat):Int))]∧As w w'∧(AI w' a5 [.slice am ms.length cm,.slice ac cl.length cc] 27)∧(i≤cl.length)∧(∀j,j<i→Sj ms cl j)) (fun i=>cl.length-i) 0 ?_ ?_
   ·refine⟨⟨rfl,rfl,rfl,rfl,trivial⟩,K0,a0,?_,?_⟩
    ·omega
    ·exact fun j hj=>absurd hj (Nat.not_lt_zero j)
   clear a0;clear K0;rintro i b2 b3 ⟨av,K0,a0,hi,hk2⟩ ih2;obtain⟨ρ₀,rfl⟩:=av.ex;clear av;refine jG ?_;refine jF ?_ ?_
   ·intro hc71
    refine Cc ?_;obtain⟨b4,b5,d,hd,aK,ab⟩:=ht.eo i;have hc_54_lt:=ab.lt;refine jV (AQ underlying25 ty87 rfl rfl aK Zl) ?_;replace ab:=ab.ext K0;refine jG ?_;refine jR<|jA ?_;intro b6 b7 ad a1 aw;have b8:=Aj a0.lt ad;have b9:=Aj ab.lt ad;have:=Nat.le_trans K0.size ad;clear ad;refine jG ?_;refine jR<|jS a1 ?_;intro ba a1 ax;refine BP ?_;replace a0:=(a0.ext aw).kp ax;replace K0:=(K0.ext aw).n1 ax;by_cases hA:AO d
    ·have hmk:=JQ (FK hk Zo) (⟨d.node,d.life⟩:AZ)
     refine Al.drawS [] [1000,2001,2,3,4,1005,6,1007,8,1009,10,1011,2012,13,14,15] ?_;intro bb ah;replace a0:=a0.ext ah;replace a1:=a1.ext ah;refine jM (jb a0 (jb a1 Jn)) ?_;refine jG ?_;refine jU rfl<|jC (ME d _) ?_;rintro _ bc ⟨rfl,ai⟩;replace a0:=a0.ext ai;replace a1:=a1.ext ai;refine BP ?_;refine jP ?_ (hx:=by exact fun _=>(AR (AS rfl) (by simp[hA])));refine jG ?_;replace K0:=(K0.ext ah).ext ai;refine jX rfl<|jC (JM _ ms _ ((d).node) ((d).life) _ (hs.ext K0) Zo) ?_;rintro _ be ⟨rfl,aj⟩;replace a0:=a0.ext aj;replace a1:=a1.ext aj;refine jG ?_;refine jQ ?_ (hx:=by exact fun _ hg=>(Aq rfl rfl Zo Zo));refine jG ?_;refine jP ?_ (hx:=by exact fun _=>(Bi rfl rfl rfl));refine jG ?_;replace K0:=K0.ext aj;refine jF ?_ ?_
     ·intro hc90
      refine jG ?_;refine jJ func36 ?_;exact⟨_,rfl,by rw[C5 (fun h=>absurd hc90 (Int.not_le.2 (h.2.2.2 i d hd).2.2))],K0⟩
     ·intro hc90
      refine BP ?_;by_cases hB:0<i
      ·obtain⟨bg,bh,x,hx,aL,a4⟩:=ht.el (i:=(((i:Nat):Int)-1).toNat) Zl
       have hc_77_lt:=a4.lt;refine Al.drawS [] [0,1,2,3,1004,5,6,7,1008,1009,2010,11,12] ?_;intro bi ae;replace a4:=(a4.ext K0).ext ae;replace a0:=a0.ext ae;replace a1:=a1.ext ae;refine jM (jb a0 (jb a1 (jl a4 Jn))) ?_;refine Cc ?_;refine jP ?_ (hx:=by exact fun _=>(A3 (DH rfl rfl) Zi));refine jG ?_;refine jQ ?_ (hx:=by exact fun _ hg=>(B6 rfl rfl Zo Zo));refine jQ ?_ (hx:=by exact fun _ hg=>(C7 underlying25 ty87 rfl rfl aL Zo Zl));refine jG ?_;refine jX rfl<|jC (JL x d _) ?_;rintro _ bj ⟨rfl,af⟩;replace a0:=a0.ext af;replace a1:=a1.ext af;replace a4:=a4.ext af;refine jG ?_;refine jP ?_ (hx:=by exact fun _=>(BA rfl rfl rfl));refine jG ?_;replace K0:=(K0.ext ae).ext af;refine jF ?_ ?_
       ·intro hc103
        refine jG ?_;refine jJ func36 ?_;exact⟨_,rfl,by rw[C5 (fun h=>hc103 ((h.2.2.2 i d hd).2.1 hB x (by rw[←DL Zo];exact hx)))],K0⟩
       ·intro hc103
        refine jG ?_;refine jV (Ay (c:=((i+1:Nat):Int)) (Aq rfl rfl Zo Zo) rfl) ?_;refine jG ?_;refine ih2 (i+1) _ _ ?_ Zo;refine⟨⟨rfl,rfl,rfl,rfl,trivial⟩,K0,a0,?_,?_⟩
        ·omega
        ·exact Bq hk2 (S1 hd hA (fun h_ _=>JR (p:=fun y=>CK y d) (by rw[←DL Zo];exact hx) hc103) hc90)
      ·refine Al.drawS [] [0,1,2,3,4,5,6,7,8,9,2010,11,12] ?_
       intro bk ak;replace a0:=a0.ext ak;refine jM (jb a0 Jn) ?_;refine Cc ?_;refine jP ?_ (hx:=by exact fun _=>(AR (DH rfl rfl) Zi));refine jG ?_;refine jY ?_;refine jG ?_;refine jP ?_ (hx:=by exact fun _=>(AN (b:=false) (e:=false) rfl rfl rfl));refine jG ?_;refine Al.condF rfl ?_;refine jG ?_;refine jV (Ay (c:=((i+1:Nat):Int)) (Aq rfl rfl Zo Zo) rfl) ?_;refine jG ?_;refine ih2 (i+1) _ _ ?_ Zo;replace a1:=a1.ext ak;replace K0:=K0.ext ak;refine⟨⟨rfl,rfl,rfl,rfl,trivial⟩,K0,a0,?_,?_⟩
       ·omega
       ·exact Bq hk2 (S1 hd hA (fun h_=>absurd h_ Zo) hc90)
    ·have hmk:=JQ (FK hk Zo) (⟨d.node,d.life⟩:AZ)
     refine Al.drawS [] [1000,2001,2,3,4,5,6,7,8,9,10,11,2012,13,14,15] ?_;intro bl al;replace a0:=a0.ext al;replace a1:=a1.ext al;refine jM (jb a0 (jb a1 Jn)) ?_;refine jG ?_;refine jU rfl<|jC (ME d _) ?_;rintro _ bm ⟨rfl,an⟩;replace a0:=a0.ext an;replace a1:=a1.ext an;refine BP ?_;refine jP ?_ (hx:=by exact fun _=>(A3 (AS rfl) (by simp[hA])));refine jG ?_;refine jY ?_;refine jG ?_;refine jP ?_ (hx:=by exact fun _=>(Ba (b:=true) (e:=false) rfl rfl rfl));refine jG ?_;refine CE ?_;refine jG ?_;refine jJ func36 ?_;replace K0:=(K0.ext al).ext an;exact⟨_,rfl,by rw[C5 (fun h=>hA (h.2.2.2 i d hd).1)],K0⟩
   ·intro hc71
    refine jG ?_;refine jJ func36 ?_;exact⟨_,rfl,by rw[Ku ⟨hl64,hl65,FK hk Zo,ML hk2 Zo⟩],K0⟩
end Go.Proofs.YtocgdeefgohdhaaGreat
namespace Go.Proofs.YtocgdeefgohdhaaGreat
open Go.Proofs.Tryz
attribute [local irreducible] RD RS AD RL RA RT BH Al
theorem BS.covR {ms:List Ac}{cl:List Ah}{d:Ah}(h:BS ms cl):D6 ms cl d↔CP ms cl d:=by
 unfold D6 CP
 constructor
 ·rintro(h1|h1)
  ·exact .inl h1
  ·exact .inr ⟨by have:=h.hg d h1;have:=h.pos d.a;omega,h1⟩
 ·rintro(h1|h1)
  ·exact .inl h1
  ·exact .inr h1.2
theorem KG {ms ms':List Ac}{cl cl':List Ah}{i:Nat}{m:Ac}(hm:ms[i]? =some m)(h:B1 ms' m.d.a<m.count):¬Fq ms cl ms' cl':=fun h2=>by have:=h2.1 m (AT hm);omega
theorem KH {ms ms':List Ac}{cl cl':List Ah}{i:Nat}{d:Ah}(hd:cl[i]? =some d)(h:¬CP ms' cl' d):¬Fq ms cl ms' cl':=fun h2=>h (h2.2 d (AT hd))
theorem Ei {α:Type}{xs:List α}{p:α→Prop}{i:Nat}(h:∀j,j<i→∀x,xs[j]? =some x→p x)(hi:xs.length≤i):∀x∈xs,p x:=fun x hx=>by
 obtain⟨j,hj,rfl⟩:=List.getElem_of_mem hx
 exact h j Zo _ (List.getElem?_eq_getElem hj)
theorem DW {α:Type}{xs:List α}{p:α→Prop}{i:Nat}{x:α}(hx:xs[i]? =some x)(h:p x):∀y,xs[i]? =some y→p y:=fun y hy=>by rw[hx]at hy;cases hy;exact h
def DM (ms:List Ac)(m:Ac)(i:Nat):List Ac×Bool:=(ms.take i).foldl (EQ m) ([],false)
theorem Jc (ms:List Ac)(m:Ac):DM ms m 0=([],false):=rfl
theorem FL {α β:Type}{f:β→α→β}{b:β}{xs:List α}{i:Nat}{x:α}(hx:xs[i]? =some x):(xs.take (i+1)).foldl f b=f ((xs.take i).foldl f b) x:=by
 obtain⟨hi,rfl⟩:=List.getElem?_eq_some_iff.1 hx
 rw[List.take_succ_eq_append_getElem hi,List.foldl_append];rfl
theorem FM {ms:List Ac}{m x:Ac}{i:Nat}(hx:ms[i]? =some x):DM ms m (i+1)=EQ m (DM ms m i) x:=FL hx
theorem Ig (ms : List Ac) (m : Ac) (i : Nat) (hi : i ≤ ms.length) : (DM ms m i).1.length ≤ 2 * i := by
  induction i with
  | zero => rw [Jc]; simp
  | succ i ih =>
    have := ih Zo
    rw [FM (List.getElem?_eq_getElem (show i < ms.length by omega)), EQ]
    split
    · simp; omega
    · split <;> simp <;> omega
theorem ON {ms:List Ac}{m:Ac}{i:Nat}(hi:i≤ms.length)(h:ms.length≤i)(hp:(DM ms m i).2=true):ED ms m=(DM ms m i).1:=by
 have e:i=ms.length:=by omega
 subst e;unfold DM at*;rw[List.take_length]at*;unfold ED;rw[if_pos hp]
theorem Qp {ms:List Ac}{m:Ac}{i:Nat}(hi:i≤ms.length)(h:ms.length≤i)(hp:(DM ms m i).2=false):ED ms m=(DM ms m i).1++[m]:=by
 have e:i=ms.length:=by omega
 subst e;unfold DM at*;rw[List.take_length]at*;unfold ED;rw[if_neg (by rw[hp];simp)]
def DN (l:List Ah)(d:Ah)(i:Nat):List Ah×Bool:=(l.take i).foldl (ER d) ([],false)
theorem Jd (l:List Ah)(d:Ah):DN l d 0=([],false):=rfl
theorem FO {l:List Ah}{d x:Ah}{i:Nat}(hx:l[i]? =some x):DN l d (i+1)=ER d (DN l d i) x:=FL hx
theorem Ih (l : List Ah) (d : Ah) (i : Nat) (hi : i ≤ l.length) : (DN l d i).1.length ≤ 2 * i := by
  induction i with
  | zero => rw [Jd]; simp
  | succ i ih =>
    have := ih Zo
    rw [FO (List.getElem?_eq_getElem (show i < l.length by omega)), ER]
    split <;> simp <;> omega
theorem OO {l:List Ah}{d:Ah}{i:Nat}(hi:i≤l.length)(h:l.length≤i)(hp:(DN l d i).2=true):E9 l d=(DN l d i).1:=by
 have e:i=l.length:=by omega
 subst e;unfold DN at*;rw[List.take_length]at*;unfold E9;rw[if_pos hp]
theorem Qq {l:List Ah}{d:Ah}{i:Nat}(hi:i≤l.length)(h:l.length≤i)(hp:(DN l d i).2=false):E9 l d=(DN l d i).1++[d]:=by
 have e:i=l.length:=by omega
 subst e;unfold DN at*;rw[List.take_length]at*;unfold E9;rw[if_neg (by rw[hp];simp)]
theorem DU.at {M l:List Ac}{i:Nat}{m:Ac}(h:DU l (M.take i))(hm:M[i]? =some m)(hp:1≤m.count):DU (ED l m) (M.take (i+1)):=by
 obtain⟨hi,rfl⟩:=List.getElem?_eq_some_iff.1 hm
 rw[List.take_succ_eq_append_getElem hi];exact h.step hp
theorem DV.at {D l:List Ah}{i:Nat}{d:Ah}(h:DV l (D.take i))(hd:D[i]? =some d):DV (E9 l d) (D.take (i+1)):=by
 obtain⟨hi,rfl⟩:=List.getElem?_eq_some_iff.1 hd
 rw[List.take_succ_eq_append_getElem hi];exact h.step _
theorem AO.pos {d:Ah}(h:AO d):1≤d.count:=by unfold AO at h;omega
def ctx0 (e:Int):Int×List Ac×List Ah:=(e,[],[])
def Bj (M:List Ac)(D:List Ah):Int×List Ac×List Ah:=
 if (∃m∈M,¬AO m.d)∨(∃d∈D,¬AO d)then(1,[],[])else if 64<(BI M D).1.length∨64<(BI M D).2.length then(4,[],[])else(0,(BI M D).1,(BI M D).2)
theorem MN {M:List Ac}{D:List Ah}{i:Nat}{m:Ac}(hm:M[i]? =some m)(h:¬AO m.d):Bj M D=(1,[],[]):=by rw[Bj,if_pos (.inl ⟨m,AT hm,h⟩)]
theorem MO {M:List Ac}{D:List Ah}{i:Nat}{d:Ah}(hd:D[i]? =some d)(h:¬AO d):Bj M D=(1,[],[]):=by rw[Bj,if_pos (.inr ⟨d,AT hd,h⟩)]
theorem Je {M:List Ac}{D:List Ah}(hM:∀m∈M,AO m.d)(hD:∀d∈D,AO d):¬((∃m∈M,¬AO m.d)∨(∃d∈D,¬AO d)):=by
 rintro(⟨m,hm,h⟩|⟨d,hd,h⟩)
 ·exact h (hM m hm)
 ·exact h (hD d hd)
theorem LL {M ms:List Ac}{D cl:List Ah}(hM:∀m∈M,AO m.d)(hD:∀d∈D,AO d)(h:BI M D=(ms,cl))(hl:64<ms.length∨64<cl.length):Bj M D=(4,[],[]):=by
 rw[Bj,if_neg (Je hM hD),h,if_pos hl]
theorem OP {M ms:List Ac}{D cl:List Ah}(hM:∀m∈M,AO m.d)(hD:∀d∈D,AO d)(h:BI M D=(ms,cl))(h1:ms.length≤64)(h2:cl.length≤64):Bj M D=(0,ms,cl):=by
 rw[Bj,if_neg (Je hM hD),h,if_neg Zp]
noncomputable def AC (ms:List Ac)(cl:List Ah)(ms':List Ac)(cl':List Ah):Int×List Ac×List Ah:=
 if Cr ms cl=true∧Cr ms' cl'=true then Bj (ms++ms') (cl++cl')else(30,[],[])
theorem Ii {ms ms':List Ac}{cl cl':List Ah}(h:¬(Cr ms cl=true∧Cr ms' cl'=true)):AC ms cl ms' cl'=(30,[],[]):=by rw[AC,if_neg h]
theorem De {ms ms':List Ac}{cl cl':List Ah}(h:Cr ms cl=true)(h2:Cr ms' cl'=true):AC ms cl ms' cl'=Bj (ms++ms') (cl++cl'):=by rw[AC,if_pos ⟨h,h2⟩]
attribute [local irreducible] AO FW CK Ca B9 B1 CP D6
attribute [local irreducible] DM DN ED E9 Bj AC BI
attribute [local irreducible] X
theorem S6 (am:Option Addr)(ms:List Ac)(cm:Nat)(ac:Option Addr)(cl:List Ah)(cc:Nat)(am2:Option Addr)(ms2:List Ac)(cm2:Nat)(ac2:Option Addr)(cl2:List Ah)(cc2:Nat)(w:World)(hs:At w am ms)(ht:At w ac cl)(hs2:At w am2 ms2)(ht2:At w ac2 cl2)(hl:ms.length≤4294967295)(hl2:cl.length≤4294967295)(hl3:ms2.length≤4294967295)(hl4:cl2.length≤4294967295)(hcan:BS ms2 cl2)(hbd:∀a,B1 ms2 a≤4611686018427387904):
  Calls prog 157 #[.agg #[.slice am ms.length cm,.slice ac cl.length cc],.agg #[.slice am2 ms2.length cm2,.slice ac2 cl2.length cc2]] w (AU (fun v w'=>v= .bool (decide (Fq ms cl ms2 cl2))∧As w w')):=by
 refine Af (n:=60) func157 rfl rfl rfl ?_;refine jG ?_;refine jR<|jB ?_;intro a5 au al a1 ar;have:w.heap.size≤a5:=al;clear al;have K0:=(ar:As w _);refine jR<|jB ?_;intro a6 av ae a0 an;have aw:=Aj a1.lt ae;have:=Nat.le_trans K0.size ae;clear ae;replace a1:=a1.ext an;refine jG ?_;replace K0:=K0.ext an;refine Al.loop (ι:=Nat) (fun i ρ' w'=>AG ρ' [(2,jp a5),(3,jp a6),(12,.slice am ms.length cm),(13,.int .i64 ((ms.length:Nat):Int)),(14,.int .i64 ((i:Nat):Int))]∧As w w'∧(AI w' a5 [.slice am ms.length cm,.slice ac cl.length cc] 27)∧(AI w' a6 [.slice am2 ms2.length cm2,.slice ac2 cl2.length cc2] 27)∧(i≤ms.length)∧(∀j,j<i→∀m,ms[j]? =some m→m.count≤B1 ms2 m.d.a)) (fun i=>ms.length-i) 0 ?_ ?_
 ·refine⟨⟨rfl,rfl,rfl,rfl,rfl,trivial⟩,K0,a1,a0,?_,?_⟩
  ·omega
  ·exact fun j hj=>absurd hj (Nat.not_lt_zero j)
 clear a1 a0;clear K0;rintro i ax ay ⟨ao,K0,a1,a0,hi,hk⟩ ih1;obtain⟨ρ₀,rfl⟩:=ao.ex;clear ao;refine jG ?_;refine jF ?_ ?_
 ·intro hc15
  obtain⟨az,aA,m,hm,aB,a7⟩:=hs.eo i;have hc_18_lt:=a7.lt;replace a7:=a7.ext K0;refine jG ?_;refine jR<|jA ?_;intro aC aD a3 a2 af;have aE:=Aj a1.lt a3;have aF:=Aj a0.lt a3;have aG:=Aj a7.lt a3;have:=Nat.le_trans K0.size a3;clear a3;refine jR<|jS a2 ?_;intro aH a2 ag;refine jG ?_;refine Al.drawS [] [1000,1001,2002,2003,2004,5] ?_;intro aI a8;replace a0:=((a0.ext af).kp ag).ext a8;replace a2:=a2.ext a8;refine jM (jb a0 (jb a2 Jn)) ?_;refine jG ?_;refine jU rfl<|jC (G3 m _) ?_;rintro _ aJ ⟨rfl,a9⟩;replace a0:=a0.ext a9;replace a2:=a2.ext a9;refine jG ?_;refine jU rfl<|jC (Fw (Ac.d m) _) ?_;rintro _ aK ⟨rfl,aa⟩;replace a0:=a0.ext aa;replace a2:=a2.ext aa;refine jG ?_;replace K0:=((((K0.ext af).n1 ag).ext a8).ext a9).ext aa;refine jU rfl<|jC (Kv am2 ms2 cm2 ac2 cl2 cc2 (Ah.a (Ac.d m)) _ (hs2.ext K0) (ht2.ext K0) Zo Zo) ?_;rintro _ aL ⟨rfl,ab⟩;have hmp:=hcan.pos m.d.a;have hmb:=hbd m.d.a;replace a0:=a0.ext ab;replace a2:=a2.ext ab;refine jG ?_;refine jV (Aq rfl rfl Zo Zo) ?_;refine jG ?_;refine Al.unloop ?_;refine jG ?_;replace a1:=(((((a1.ext af).kp ag).ext a8).ext a9).ext aa).ext ab;replace K0:=K0.ext ab;refine jF ?_ ?_
  ·intro hc28
   refine jG ?_;refine jV (B6 rfl rfl Zo Zo) ?_;refine jV (AR (DH rfl rfl) Zi) ?_;refine jG ?_;refine jT<|jO (Ar (cells:=#[.int .i64 ((m).node),.int .i64 ((m).life),.int .i64 ((B1 ms2 (Ah.a (Ac.d m)))+1)]) Zk) ?_;refine jT<|jC (H7 _ _ _ (⟨(m).node,(m).life,(B1 ms2 (Ah.a (Ac.d m)))+1⟩:Ah) _ (ht2.ext K0) Zo) ?_;rintro _ aM ⟨rfl,ah⟩;refine jG ?_;refine jV (Bi rfl rfl rfl) ?_;refine jG ?_
   skip
   replace a1:=a1.ext ah;replace a0:=a0.ext ah;replace K0:=K0.ext ah;refine jF ?_ ?_
   ·intro hc46
    refine jG ?_;refine jJ func157 ?_;exact⟨_,rfl,by rw[decide_eq_false (KG hm Zo)],K0⟩
   ·intro hc46
    obtain⟨y,hy,he⟩:=List.any_eq_true.1 hc46;exact absurd (by rw[←beq_iff_eq.1 he]at hy;exact hy) (hcan.next (d:=⟨m.node,m.life,B1 ms2 m.d.a+1⟩) rfl)
  ·intro hc28
   refine jG ?_;refine jV (Ay (c:=((i+1:Nat):Int)) (Aq rfl rfl Zo Zo) rfl) ?_;refine jG ?_;refine ih1 (i+1) _ _ ?_ Zo;refine⟨⟨rfl,rfl,rfl,rfl,rfl,trivial⟩,K0,a1,a0,?_,?_⟩
   ·omega
   ·exact Bq hk (DW hm Zo)
 ·intro hc15
  refine jG ?_;refine Al.loop (ι:=Nat) (fun i ρ' w'=>AG ρ' [(3,jp a6),(49,.slice ac cl.length cc),(50,.int .i64 ((cl.length:Nat):Int)),(51,.int .i64 ((i:Nat):Int))]∧As w w'∧(AI w' a5 [.slice am ms.length cm,.slice ac cl.length cc] 27)∧(AI w' a6 [.slice am2 ms2.length cm2,.slice ac2 cl2.length cc2] 27)∧(i≤cl.length)∧(∀j,j<i→∀d,cl[j]? =some d→CP ms2 cl2 d)) (fun i=>cl.length-i) 0 ?_ ?_
  ·refine⟨⟨rfl,rfl,rfl,rfl,trivial⟩,K0,a1,a0,?_,?_⟩
   ·omega
   ·exact fun j hj=>absurd hj (Nat.not_lt_zero j)
  clear a1 a0;clear K0;rintro i aN aO ⟨ap,K0,a1,a0,hi,hk2⟩ ih3;obtain⟨ρ₀,rfl⟩:=ap.ex;clear ap;refine jG ?_;refine jF ?_ ?_
  ·intro hc52
   obtain⟨aP,aQ,d,hd,aR,ad⟩:=ht.eo i;have hc_47_lt:=ad.lt;replace ad:=ad.ext K0;refine jG ?_;refine jR<|jA ?_;intro aS aT a4 aq ai;have aU:=Aj a1.lt a4;have aV:=Aj a0.lt a4;have aW:=Aj ad.lt a4;have:=Nat.le_trans K0.size a4;clear a4;refine jR<|jS aq ?_;intro aX aq aj;replace a0:=(a0.ext ai).kp aj;refine jG ?_;replace K0:=(K0.ext ai).n1 aj;refine jR<|jC (Gv am2 ms2 cm2 ac2 cl2 cc2 d _ (hs2.ext K0) (ht2.ext K0) Zo Zo) ?_;rintro _ aY ⟨rfl,ak⟩;refine jG ?_;replace a1:=((a1.ext ai).kp aj).ext ak;replace a0:=a0.ext ak;replace K0:=K0.ext ak;refine jF ?_ ?_
   ·intro hc58
    refine jG ?_;refine jJ func157 ?_;exact⟨_,rfl,by rw[decide_eq_false (KH hd hc58)],K0⟩
   ·intro hc58
    refine jG ?_;refine jV (Ay (c:=((i+1:Nat):Int)) (Aq rfl rfl Zo Zo) rfl) ?_;refine jG ?_;refine ih3 (i+1) _ _ ?_ Zo;refine⟨⟨rfl,rfl,rfl,rfl,trivial⟩,K0,a1,a0,?_,?_⟩
    ·omega
    ·exact Bq hk2 (DW hd hc58)
  ·intro hc52
   refine jG ?_;refine jJ func157 ?_;exact⟨_,rfl,by rw[decide_eq_true ⟨Ei hk Zo,Ei hk2 Zo⟩],K0⟩
theorem Rf (am:Option Addr)(ms:List Ac)(cm:Nat)(ac:Option Addr)(cl:List Ah)(cc:Nat)(am2:Option Addr)(ms2:List Ac)(cm2:Nat)(ac2:Option Addr)(cl2:List Ah)(cc2:Nat)(w:World)(hs:At w am ms)(ht:At w ac cl)(hs2:At w am2 ms2)(ht2:At w ac2 cl2)(hl:ms.length≤4294967295)(hl2:cl.length≤4294967295)(hl3:ms2.length≤4294967295)(hl4:cl2.length≤4294967295)(hcan:BS ms2 cl2):
  Calls prog 13 #[.agg #[.slice am ms.length cm,.slice ac cl.length cc],.agg #[.slice am2 ms2.length cm2,.slice ac2 cl2.length cc2]] w (AU (fun v w'=>v= .bool (decide (Fq ms cl ms2 cl2))∧As w w')):=by
 refine Af (n:=39) func13 rfl rfl rfl ?_;refine jG ?_;refine jR<|jB ?_;intro a5 ap ai a1 ao;have:w.heap.size≤a5:=ai;clear ai;have K0:=(ao:As w _);refine jR<|jB ?_;intro a6 aq ab a0 aj;have ar:=Aj a1.lt ab;have:=Nat.le_trans K0.size ab;clear ab;replace a1:=a1.ext aj;refine jG ?_;replace K0:=K0.ext aj;refine Al.loop (ι:=Nat) (fun i ρ' w'=>AG ρ' [(2,jp a5),(3,jp a6),(10,.slice am ms.length cm),(11,.int .i64 ((ms.length:Nat):Int)),(12,.int .i64 ((i:Nat):Int))]∧As w w'∧(AI w' a5 [.slice am ms.length cm,.slice ac cl.length cc] 27)∧(AI w' a6 [.slice am2 ms2.length cm2,.slice ac2 cl2.length cc2] 27)∧(i≤ms.length)∧(∀j,j<i→∀m,ms[j]? =some m→m.count≤B1 ms2 m.d.a)) (fun i=>ms.length-i) 0 ?_ ?_
 ·refine⟨⟨rfl,rfl,rfl,rfl,rfl,trivial⟩,K0,a1,a0,?_,?_⟩
  ·omega
  ·exact fun j hj=>absurd hj (Nat.not_lt_zero j)
 clear a1 a0;clear K0;rintro i au av ⟨ak,K0,a1,a0,hi,hk⟩ ih1;obtain⟨ρ₀,rfl⟩:=ak.ex;clear ak;refine jG ?_;refine jF ?_ ?_
 ·intro hc13
  obtain⟨aw,ax,m,hm,ay,a7⟩:=hs.eo i;have hc_18_lt:=a7.lt;replace a7:=a7.ext K0;refine jG ?_;refine jR<|jA ?_;intro az aA a3 a2 ad;have aB:=Aj a1.lt a3;have aC:=Aj a0.lt a3;have aD:=Aj a7.lt a3;have:=Nat.le_trans K0.size a3;clear a3;refine jR<|jS a2 ?_;intro aE a2 ae;refine jG ?_;refine Al.drawS [] [0,1001,2,1003,4,1005,7,1008,2006,9] ?_;intro aF a8;replace a0:=((a0.ext ad).kp ae).ext a8;replace a2:=a2.ext a8;refine jM (jb a0 (jb a2 Jn)) ?_;refine jG ?_;replace K0:=((K0.ext ad).n1 ae).ext a8;refine jU rfl<|jC (JM _ ms2 _ ((m).node) ((m).life) _ (hs2.ext K0) Zo) ?_;rintro _ aG ⟨rfl,a9⟩;replace a0:=a0.ext a9;replace a2:=a2.ext a9;refine jG ?_;replace a1:=(((a1.ext ad).kp ae).ext a8).ext a9;replace K0:=K0.ext a9;refine jF ?_ ?_
  ·intro hc25
   refine jG ?_;refine jJ func13 ?_;exact⟨_,rfl,by rw[decide_eq_false (KG hm hc25)],K0⟩
  ·intro hc25
   refine jG ?_;refine jV (Ay (c:=((i+1:Nat):Int)) (Aq rfl rfl Zo Zo) rfl) ?_;refine jG ?_;refine ih1 (i+1) _ _ ?_ Zo;refine⟨⟨rfl,rfl,rfl,rfl,rfl,trivial⟩,K0,a1,a0,?_,?_⟩
   ·omega
   ·exact Bq hk (DW hm hc25)
 ·intro hc13
  refine jG ?_;refine Al.loop (ι:=Nat) (fun i ρ' w'=>AG ρ' [(3,jp a6),(28,.slice ac cl.length cc),(29,.int .i64 ((cl.length:Nat):Int)),(30,.int .i64 ((i:Nat):Int))]∧As w w'∧(AI w' a5 [.slice am ms.length cm,.slice ac cl.length cc] 27)∧(AI w' a6 [.slice am2 ms2.length cm2,.slice ac2 cl2.length cc2] 27)∧(i≤cl.length)∧(∀j,j<i→∀d,cl[j]? =some d→CP ms2 cl2 d)) (fun i=>cl.length-i) 0 ?_ ?_
  ·refine⟨⟨rfl,rfl,rfl,rfl,trivial⟩,K0,a1,a0,?_,?_⟩
   ·omega
   ·exact fun j hj=>absurd hj (Nat.not_lt_zero j)
  clear a1 a0;clear K0;rintro i aH aI ⟨al,K0,a1,a0,hi,hk2⟩ ih2;obtain⟨ρ₀,rfl⟩:=al.ex;clear al;refine jG ?_;refine jF ?_ ?_
  ·intro hc31
   obtain⟨aJ,aK,d,hd,aL,aa⟩:=ht.eo i;have hc_41_lt:=aa.lt;replace aa:=aa.ext K0;refine jG ?_;refine jR<|jA ?_;intro aM aN a4 an af;have aO:=Aj a1.lt a4;have aP:=Aj a0.lt a4;have aQ:=Aj aa.lt a4;have:=Nat.le_trans K0.size a4;clear a4;refine jR<|jS an ?_;intro aR an ag;replace a0:=(a0.ext af).kp ag;refine jG ?_;replace K0:=(K0.ext af).n1 ag;refine jR<|jC (Fx am2 ms2 cm2 ac2 cl2 cc2 d _ (hs2.ext K0) (ht2.ext K0) Zo Zo) ?_;rintro _ aS ⟨rfl,ah⟩;refine jG ?_;replace a1:=((a1.ext af).kp ag).ext ah;replace a0:=a0.ext ah;replace K0:=K0.ext ah;refine jF ?_ ?_
   ·intro hc37
    refine jG ?_;refine jJ func13 ?_;exact⟨_,rfl,by rw[decide_eq_false (KH hd (fun h=>hc37 (hcan.covR.2 h)))],K0⟩
   ·intro hc37
    refine jG ?_;refine jV (Ay (c:=((i+1:Nat):Int)) (Aq rfl rfl Zo Zo) rfl) ?_;refine jG ?_;refine ih2 (i+1) _ _ ?_ Zo;refine⟨⟨rfl,rfl,rfl,rfl,trivial⟩,K0,a1,a0,?_,?_⟩
    ·omega
    ·exact Bq hk2 (DW hd (hcan.covR.1 hc37))
  ·intro hc31
   refine jG ?_;refine jJ func13 ?_;exact⟨_,rfl,by rw[decide_eq_true ⟨Ei hk Zo,Ei hk2 Zo⟩],K0⟩
theorem St (am:Option Addr)(ms:List Ac)(cm:Nat)(ac:Option Addr)(cl:List Ah)(cc:Nat)(w:World)(hs:At w am ms)(ht:At w ac cl)(hl:ms.length≤4294967295)(hl2:cl.length≤4294967295)(hcan:BS ms cl):
  Calls prog 158 #[.agg #[.slice am ms.length cm,.slice ac cl.length cc]] w (AU (fun v w'=>∃n:Int,v= .int .i64 n∧(n=0↔ms=[]∧cl=[])∧As w w')):=by
 refine Af (n:=27) func158 rfl rfl rfl ?_;refine jG ?_;refine jR<|jB ?_;intro a3 aa a4 a0 a9;have:w.heap.size≤a3:=a4;clear a4;have K0:=(a9:As w _);refine jG ?_;refine jV (On rfl rfl) ?_;refine jG ?_;refine Al.loop (ι:=Nat) (fun i ρ' w'=>∃n:Int,AG ρ' [(3,.int .i64 n),(11,.slice am ms.length cm),(12,.int .i64 ((ms.length:Nat):Int)),(13,.int .i64 ((i:Nat):Int))]∧As w w'∧(AI w' a3 [.slice am ms.length cm,.slice ac cl.length cc] 27)∧(i≤ms.length)∧(0≤n∧n≤4611686018427387904)∧(n=0↔i=0∧cl.length=0)) (fun i=>ms.length-i) 0 ?_ ?_
 ·refine⟨(min ((cl.length:Nat):Int) 4611686018427387904),⟨rfl,rfl,rfl,rfl,trivial⟩,K0,a0,?_,?_,?_⟩
  ·omega
  ·omega
  ·omega
 clear a0;clear K0;rintro i ab ad ⟨n,a5,K0,a0,hi,hn,hz⟩ ih1;obtain⟨ρ₀,rfl⟩:=a5.ex;clear a5;refine jG ?_;refine jF ?_ ?_
 ·intro hc14
  obtain⟨ae,af,m,hm,ag,a1⟩:=hs.eo i;have hc_12_lt:=a1.lt;replace a1:=a1.ext K0;refine jG ?_;refine jR<|jA ?_;intro ah ai a2 a6 a7;have aj:=Aj a0.lt a2;have ak:=Aj a1.lt a2;have:=Nat.le_trans K0.size a2;clear a2;refine jR<|jS a6 ?_;intro al a6 a8;have hmp:=hcan.hp m (AT hm);refine jG ?_;refine jV (Om rfl rfl) ?_;refine jG ?_;refine jV (B6 rfl rfl Zo Zo) ?_;refine jV (On rfl rfl) ?_;refine jV (Aq rfl rfl Zo Zo) ?_;refine jG ?_;refine jV (Ay (c:=((i+1:Nat):Int)) (Aq rfl rfl Zo Zo) rfl) ?_;refine jG ?_;refine ih1 (i+1) _ _ ?_ Zo;replace a0:=(a0.ext a7).kp a8;replace K0:=(K0.ext a7).n1 a8;refine⟨(n+min (max m.count 0) (4611686018427387904-n)),⟨rfl,rfl,rfl,rfl,trivial⟩,K0,a0,?_,?_,?_⟩
  ·omega
  ·omega
  ·omega
 ·intro hc14
  refine jG ?_;refine jJ func158 ?_;exact⟨_,rfl,n,rfl,by rw[hz,←List.length_eq_zero_iff,←List.length_eq_zero_iff];omega,K0⟩
theorem Rg (am:Option Addr)(ms:List Ac)(cm:Nat)(m:Ac)(w:World)(hs:At w am ms)(hl:ms.length≤1000000):
  Calls prog 124 #[.slice am ms.length cm,.agg #[.int .i64 ((m).node),.int .i64 ((m).life),.int .i64 ((m).count)]] w (AU (fun v w'=>∃a' c',v= .slice a' (ED ms m).length c'∧Ag w' 112 a' c' (ED ms m)∧(∀b,own a' b→w.heap.size≤b)∧As w w')):=by
 refine Af (n:=71) func124 rfl rfl rfl ?_;refine jG ?_;refine jR<|jB ?_;intro a3 aD aq a0 aE;have:w.heap.size≤a3:=aq;clear aq;have K0:=(aE:As w _);refine jG ?_;refine Al.loop (ι:=Nat) (fun i ρ' w'=>∃a':Option Addr,∃c':Nat,AG ρ' [(3,jp a3),(5,.slice a' (((DM ms m i).1).length) c'),(6,.bool ((DM ms m i).2)),(9,.slice am ms.length cm),(10,.int .i64 ((ms.length:Nat):Int)),(11,.int .i64 ((i:Nat):Int))]∧As w w'∧(AI w' a3 [.int .i64 ((m).node),.int .i64 ((m).life),.int .i64 ((m).count)] 112)∧(Ag w' 112 a' c' ((DM ms m i).1))∧(¬own a' a3)∧(∀q_,own a' q_→w.heap.size≤q_)∧(i≤ms.length)) (fun i=>ms.length-i) 0 ?_ ?_
 ·rw[Jc]
  have aF:=Ag.nil (α:=Ac) aD 112;refine⟨_,_,⟨rfl,rfl,rfl,rfl,rfl,rfl,trivial⟩,K0,a0,aF,(Ad a3),(fun q_ h1=>absurd h1 (Ad q_)),?_⟩
  ·omega
 clear a0;clear K0;rintro i ba bb ⟨a',c',ar,K0,a0,a1,a5,a4,hi⟩ ih1;obtain⟨ρ₀,rfl⟩:=ar.ex;clear ar;refine jG ?_;refine jF ?_ ?_
 ·intro hc12
  obtain⟨bc,be,x,hx,bg,a7⟩:=hs.eo i;have hc_16_lt:=a7.lt;replace a7:=a7.ext K0;refine jG ?_;refine jR<|jA ?_;intro aG bh a6 a2 ae;have bi:=Aj a0.lt a6;have bj:=Aj a7.lt a6;have a8:=Ak a1.own_lt a6;have:=Nat.le_trans K0.size a6;clear a6;refine jR<|jS a2 ?_;intro bk a2 af;replace a0:=(a0.ext ae).kp af;refine jG ?_;refine jV (AN rfl rfl rfl) ?_;refine jG ?_;replace a1:=(a1.ext ae).keepO af (Aa a8);replace K0:=(K0.ext ae).n1 af;refine jF ?_ ?_
  ·intro hc26
   have hsl:=Ig ms m i hi;refine jG ?_;refine jV (Om rfl rfl) ?_;refine jV (Ar (cells:=#[.int .i64 ((x).node),.int .i64 ((x).life),.int .i64 (max ((x).count) ((m).count))]) Zk) ?_;refine jR<|AD.buildSlice ([(⟨(x).node,(x).life,max ((x).count) ((m).count)⟩:Ac)]:List Ac) underlying24 ty112 rfl rfl Ze ?_;intro bl bm aH aI a9;clear aH;replace a1:=a1.ext a9;refine jR<|AD.append (xs:=(DM ms m i).1) (ys:=([(⟨(x).node,(x).life,max ((x).count) ((m).count)⟩:Ac)]:List Ac)) underlying24 ty112 rfl rfl rfl a1 aI.sl Zr Zd ?_;intro au bn bo aJ ag ah aK;replace a0:=a0.ext a9;have aL:¬own au a3:=ah.not a5 a0.lt;replace K0:=K0.ext a9;have aM:∀q_,own au q_→w.heap.size≤q_:=ah.ge a4 K0.size;clear ah;clear aK;refine jG ?_;refine jV (Ay (c:=((i+1:Nat):Int)) (Aq rfl rfl Zo Zo) rfl) ?_;refine jG ?_;have e:=FM (m:=m) hx;rw[EQ,if_pos (by simp only[Ac.d,Ah.a,AZ.mk.injEq];exact hc26)]at e;refine ih1 (i+1) _ _ ?_ Zo;rw[e];replace a2:=(a2.ext a9).keep ag a8;replace a0:=a0.keep ag a5;replace K0:=K0.new ag a4;refine⟨_,_,⟨rfl,rfl,rfl,rfl,rfl,rfl,trivial⟩,K0,a0,aJ,aL,aM,?_⟩
   ·omega
  ·intro hc26
   have hsl:=Ig ms m i hi;refine jG ?_;refine jW ?_ (hx:=by exact fun hg=>(Kp (cells:=#[.int .i64 ((m).node),.int .i64 ((m).life),.int .i64 0]) (Mw (v:= .int .i64 ((m).node)) (Bh hg) (Mw (v:= .int .i64 ((m).life)) (Bh hg) pnil)) Zk));refine jG ?_;refine jW ?_ (hx:=by exact fun hg=>(Kp (cells:=#[.int .i64 ((x).node),.int .i64 ((x).life),.int .i64 0]) (Mw (v:= .int .i64 ((x).node)) (Bh hg) (Mw (v:= .int .i64 ((x).life)) (Bh hg) pnil)) Zk));refine RL.gcall (vals:=[.agg #[.int .i64 ((m).node),.int .i64 ((m).life),.int .i64 0],.agg #[.int .i64 ((x).node),.int .i64 ((x).life),.int .i64 0]]) (A8 rfl rfl rfl rfl) en74.h (fun hg=>(Bm (Bh hg) (Bm (Bh hg) Di))) (fun hg=>(JL (⟨(m).node,(m).life,0⟩:Ah) (⟨(x).node,(x).life,0⟩:Ah) _)) ?_;intro bp aa;refine jV (AN rfl rfl rfl) ?_;refine jG ?_;replace a0:=a0.ext aa;replace a1:=a1.ext aa;replace a2:=a2.ext aa;replace K0:=K0.ext aa;refine jF ?_ ?_
   ·intro hc54
    refine jG ?_;refine jR<|AD.buildSlice ([m]:List Ac) underlying24 ty112 rfl rfl Ze ?_;intro bq bs aN aO ab;clear aN;replace a1:=a1.ext ab;refine jR<|AD.append (xs:=(DM ms m i).1) (ys:=([m]:List Ac)) underlying24 ty112 rfl rfl rfl a1 aO.sl Zr Zd ?_;intro ai bt bu aj ak ac aP;replace a0:=a0.ext ab;have av:¬own ai a3:=ac.not a5 a0.lt;replace a2:=a2.ext ab;have aQ:¬own ai aG:=ac.not a8 a2.lt;replace K0:=K0.ext ab;have aw:∀q_,own ai q_→w.heap.size≤q_:=ac.ge a4 K0.size;clear ac;clear aP;replace a2:=a2.keep ak a8;refine jG ?_;refine jR<|AD.buildSlice ([x]:List Ac) underlying24 ty112 rfl rfl Ze ?_;intro bv bw aR aS ad;clear aR;replace aj:=aj.ext ad;refine jR<|AD.append (xs:=((DM ms m i).1)++([m]:List Ac)) (ys:=([x]:List Ac)) underlying24 ty112 rfl rfl rfl aj aS.sl Zr Zd ?_;intro ax bx bz aT al an aU;replace a0:=(a0.keep ak a5).ext ad;have aV:¬own ax a3:=an.not av a0.lt;replace K0:=(K0.new ak a4).ext ad;have aW:∀q_,own ax q_→w.heap.size≤q_:=an.ge aw K0.size;clear an;clear aU;refine jG ?_;refine jV (Ay (c:=((i+1:Nat):Int)) (Aq rfl rfl Zo Zo) rfl) ?_;refine jG ?_;have e:=FM (m:=m) hx;rw[EQ,if_neg (by simp only[Ac.d,Ah.a,AZ.mk.injEq];omega),if_pos ⟨hc54.1,by have h_:=hc54.2;unfold CK at h_;unfold Ca;simp only at h_;omega⟩]at e;refine ih1 (i+1) _ _ ?_ Zo;rw[e];replace a2:=(a2.ext ad).keep al aQ;replace a0:=a0.keep al av;replace K0:=K0.new al aw;refine⟨_,_,⟨rfl,rfl,rfl,rfl,rfl,rfl,trivial⟩,K0,a0,aT,aV,aW,?_⟩
    ·omega
   ·intro hc54
    refine jG ?_;refine jR<|AD.buildSlice ([x]:List Ac) underlying24 ty112 rfl rfl Ze ?_;intro bA bB aX aY ao;clear aX;replace a1:=a1.ext ao;refine jR<|AD.append (xs:=(DM ms m i).1) (ys:=([x]:List Ac)) underlying24 ty112 rfl rfl rfl a1 aY.sl Zr Zd ?_;intro ay bC bD aZ az ap b0;replace a0:=a0.ext ao;have b1:¬own ay a3:=ap.not a5 a0.lt;replace K0:=K0.ext ao;have b2:∀q_,own ay q_→w.heap.size≤q_:=ap.ge a4 K0.size;clear ap;clear b0;refine jG ?_;refine jV (Ay (c:=((i+1:Nat):Int)) (Aq rfl rfl Zo Zo) rfl) ?_;refine jG ?_;have e:=FM (m:=m) hx;rw[EQ,if_neg (by simp only[Ac.d,Ah.a,AZ.mk.injEq];omega),if_neg (fun h_=>hc54.elim (fun h2=>by rw[h_.1]at h2;cases h2) (fun h2=>h2 (by have h3:=h_.2;unfold Ca at h3;unfold CK;simp only;omega)))]at e;refine ih1 (i+1) _ _ ?_ Zo;rw[e];replace a0:=a0.keep az a5;replace K0:=K0.new az a4;refine⟨_,_,⟨rfl,rfl,rfl,rfl,rfl,rfl,trivial⟩,K0,a0,aZ,b1,b2,?_⟩
    ·omega
 ·intro hc12
  have hsl:=Ig ms m i hi;refine jG ?_;refine jF ?_ ?_
  ·intro hc65
   refine jG ?_;refine jR<|AD.buildSlice ([m]:List Ac) underlying24 ty112 rfl rfl Ze ?_;intro bE bF b3 b4 aA;clear b3;replace a1:=a1.ext aA;refine jR<|AD.append (xs:=(DM ms m i).1) (ys:=([m]:List Ac)) underlying24 ty112 rfl rfl rfl a1 b4.sl Zr Zd ?_;intro aB b5 bG b6 b7 aC b8;replace K0:=K0.ext aA;have b9:∀q_,own aB q_→w.heap.size≤q_:=aC.ge a4 K0.size;clear aC;clear b8;refine jG ?_;refine jJ func124 ?_;rw[Qp hi Zo hc65];replace K0:=K0.new b7 a4;exact⟨_,rfl,aB,b5,rfl,b6,b9,K0⟩
  ·intro hc65
   refine jG ?_;refine jJ func124 ?_;rw[ON hi Zo hc65];exact⟨_,rfl,a',c',rfl,a1,a4,K0⟩
theorem Su (a:Option Addr)(xs:List Ah)(c:Nat)(d:Ah)(w:World)(hs:At w a xs)(hl:xs.length≤1000000):
  Calls prog 125 #[.slice a xs.length c,.agg #[.int .i64 ((d).node),.int .i64 ((d).life),.int .i64 ((d).count)]] w (AU (fun v w'=>∃a' c',v= .slice a' (E9 xs d).length c'∧Ag w' 87 a' c' (E9 xs d)∧(∀b,own a' b→w.heap.size≤b)∧As w w')):=by
 refine Af (n:=41) func125 rfl rfl rfl ?_;refine jG ?_;refine jR<|jB ?_;intro a3 aC ap a0 aD;have:w.heap.size≤a3:=ap;clear ap;have K0:=(aD:As w _);refine jG ?_;refine Al.loop (ι:=Nat) (fun i ρ' w'=>∃a':Option Addr,∃c':Nat,AG ρ' [(3,jp a3),(5,.slice a' (((DN xs d i).1).length) c'),(6,.bool ((DN xs d i).2)),(9,.slice a xs.length c),(10,.int .i64 ((xs.length:Nat):Int)),(11,.int .i64 ((i:Nat):Int))]∧As w w'∧(AI w' a3 [.int .i64 ((d).node),.int .i64 ((d).life),.int .i64 ((d).count)] 87)∧(Ag w' 87 a' c' ((DN xs d i).1))∧(¬own a' a3)∧(∀q_,own a' q_→w.heap.size≤q_)∧(i≤xs.length)) (fun i=>xs.length-i) 0 ?_ ?_
 ·rw[Jd]
  have aE:=Ag.nil (α:=Ah) aC 87;refine⟨_,_,⟨rfl,rfl,rfl,rfl,rfl,rfl,trivial⟩,K0,a0,aE,(Ad a3),(fun q_ h1=>absurd h1 (Ad q_)),?_⟩
  ·omega
 clear a0;clear K0;rintro i b9 ba ⟨a',c',aq,K0,a0,a1,a5,a4,hi⟩ ih1;obtain⟨ρ₀,rfl⟩:=aq.ex;clear aq;refine jG ?_;refine jF ?_ ?_
 ·intro hc12
  obtain⟨bb,bc,x,hx,be,a7⟩:=hs.eo i;have hc_16_lt:=a7.lt;replace a7:=a7.ext K0;refine jG ?_;refine jR<|jA ?_;intro aF bg a6 a2 ae;have bh:=Aj a0.lt a6;have bi:=Aj a7.lt a6;have a8:=Ak a1.own_lt a6;have:=Nat.le_trans K0.size a6;clear a6;refine jR<|jS a2 ?_;intro bj a2 af;replace a0:=(a0.ext ae).kp af;refine jG ?_;refine jV (Ev Zk rfl rfl (CF x d)) ?_;refine jG ?_;replace a1:=(a1.ext ae).keepO af (Aa a8);replace K0:=(K0.ext ae).n1 af;refine jF ?_ ?_
  ·intro hc17
   have hsl:=Ih xs d i hi;refine CU ?_;refine jV (AS (b:=true) rfl) ?_;refine jG ?_;refine jV (AN (b:=false) (e:=false) rfl rfl rfl) ?_;refine jG ?_;refine Al.condF rfl ?_;refine jG ?_;refine jR<|AD.buildSlice ([x]:List Ah) underlying25 ty87 rfl rfl Ze ?_;intro bk bl aG aH a9;clear aG;replace a1:=a1.ext a9;refine jR<|AD.append (xs:=(DN xs d i).1) (ys:=([x]:List Ah)) underlying25 ty87 rfl rfl rfl a1 aH.sl Zr Zd ?_;intro ar bm bn aI ag ah aJ;replace a0:=a0.ext a9;have aK:¬own ar a3:=ah.not a5 a0.lt;replace K0:=K0.ext a9;have aL:∀q_,own ar q_→w.heap.size≤q_:=ah.ge a4 K0.size;clear ah;clear aJ;refine jG ?_;refine jV (Ay (c:=((i+1:Nat):Int)) (Aq rfl rfl Zo Zo) rfl) ?_;refine jG ?_;have e:=FO (d:=d) hx;rw[ER,if_neg (fun h_=>h_.1.2 hc17),decide_eq_true hc17,Bool.or_true]at e;refine ih1 (i+1) _ _ ?_ Zo;rw[e];replace a2:=(a2.ext a9).keep ag a8;replace a0:=a0.keep ag a5;replace K0:=K0.new ag a4;refine⟨_,_,⟨rfl,rfl,rfl,rfl,rfl,rfl,trivial⟩,K0,a0,aI,aK,aL,?_⟩
   ·omega
  ·intro hc17
   have hsl:=Ih xs d i hi;refine jG ?_;refine RL.gcall (vals:=[.agg #[.int .i64 ((d).node),.int .i64 ((d).life),.int .i64 ((d).count)],.agg #[.int .i64 ((x).node),.int .i64 ((x).life),.int .i64 ((x).count)]]) (A8 rfl rfl rfl rfl) en74.h (fun hg=>(Bm (Bh hg) (Bm (Bh hg) Di))) (fun hg=>(JL d x _)) ?_;intro bo aa;refine jV (AN rfl rfl rfl) ?_;refine jG ?_;replace a0:=a0.ext aa;replace a1:=a1.ext aa;replace a2:=a2.ext aa;replace K0:=K0.ext aa;refine jF ?_ ?_
   ·intro hc24
    refine jG ?_;refine jR<|AD.buildSlice ([d]:List Ah) underlying25 ty87 rfl rfl Ze ?_;intro bp bq aM aN ab;clear aM;replace a1:=a1.ext ab;refine jR<|AD.append (xs:=(DN xs d i).1) (ys:=([d]:List Ah)) underlying25 ty87 rfl rfl rfl a1 aN.sl Zr Zd ?_;intro ai bs bt aj ak ac aO;replace a0:=a0.ext ab;have au:¬own ai a3:=ac.not a5 a0.lt;replace a2:=a2.ext ab;have aP:¬own ai aF:=ac.not a8 a2.lt;replace K0:=K0.ext ab;have av:∀q_,own ai q_→w.heap.size≤q_:=ac.ge a4 K0.size;clear ac;clear aO;replace a2:=a2.keep ak a8;refine jG ?_;refine jR<|AD.buildSlice ([x]:List Ah) underlying25 ty87 rfl rfl Ze ?_;intro bu bv aQ aR ad;clear aQ;replace aj:=aj.ext ad;refine jR<|AD.append (xs:=((DN xs d i).1)++([d]:List Ah)) (ys:=([x]:List Ah)) underlying25 ty87 rfl rfl rfl aj aR.sl Zr Zd ?_;intro aw bw bx aS al am aT;replace a0:=(a0.keep ak a5).ext ad;have aU:¬own aw a3:=am.not au a0.lt;replace K0:=(K0.new ak a4).ext ad;have aV:∀q_,own aw q_→w.heap.size≤q_:=am.ge av K0.size;clear am;clear aT;refine jG ?_;refine jV (Ay (c:=((i+1:Nat):Int)) (Aq rfl rfl Zo Zo) rfl) ?_;refine jG ?_;have e:=FO (d:=d) hx;rw[ER,if_pos ⟨⟨hc24.1,hc17⟩,hc24.2⟩]at e;refine ih1 (i+1) _ _ ?_ Zo;rw[e];replace a2:=(a2.ext ad).keep al aP;replace a0:=a0.keep al au;replace K0:=K0.new al av;refine⟨_,_,⟨rfl,rfl,rfl,rfl,rfl,rfl,trivial⟩,K0,a0,aS,aU,aV,?_⟩
    ·omega
   ·intro hc24
    refine jG ?_;refine jR<|AD.buildSlice ([x]:List Ah) underlying25 ty87 rfl rfl Ze ?_;intro bz bA aW aX an;clear aW;replace a1:=a1.ext an;refine jR<|AD.append (xs:=(DN xs d i).1) (ys:=([x]:List Ah)) underlying25 ty87 rfl rfl rfl a1 aX.sl Zr Zd ?_;intro ax bB bC aY ay ao aZ;replace a0:=a0.ext an;have b0:¬own ax a3:=ao.not a5 a0.lt;replace K0:=K0.ext an;have b1:∀q_,own ax q_→w.heap.size≤q_:=ao.ge a4 K0.size;clear ao;clear aZ;refine jG ?_;refine jV (Ay (c:=((i+1:Nat):Int)) (Aq rfl rfl Zo Zo) rfl) ?_;refine jG ?_;have e:=FO (d:=d) hx;rw[ER,if_neg (fun h_=>hc24.elim (fun h2=>by rw[h_.1.1]at h2;cases h2) (fun h2=>h2 h_.2)),decide_eq_false hc17,Bool.or_false]at e;refine ih1 (i+1) _ _ ?_ Zo;rw[e];replace a0:=a0.keep ay a5;replace K0:=K0.new ay a4;refine⟨_,_,⟨rfl,rfl,rfl,rfl,rfl,rfl,trivial⟩,K0,a0,aY,b0,b1,?_⟩
    ·omega
 ·intro hc12
  refine jG ?_;refine jF ?_ ?_
  ·intro hc35
   have hsl:=Ih xs d i hi;refine jG ?_;refine jR<|AD.buildSlice ([d]:List Ah) underlying25 ty87 rfl rfl Ze ?_;intro bD bE b2 b3 az;clear b2;replace a1:=a1.ext az;refine jR<|AD.append (xs:=(DN xs d i).1) (ys:=([d]:List Ah)) underlying25 ty87 rfl rfl rfl a1 b3.sl Zr Zd ?_;intro aA b4 bF b5 b6 aB b7;replace K0:=K0.ext az;have b8:∀q_,own aA q_→w.heap.size≤q_:=aB.ge a4 K0.size;clear aB;clear b7;refine jG ?_;refine jJ func125 ?_;rw[Qq hi Zo hc35];replace K0:=K0.new b6 a4;exact⟨_,rfl,aA,b4,rfl,b5,b8,K0⟩
  ·intro hc35
   refine jG ?_;refine jJ func125 ?_;rw[OO hi Zo hc35];exact⟨_,rfl,a',c',rfl,a1,a4,K0⟩
end Go.Proofs.YtocgdeefgohdhaaGreat
