/-
  Ca, Cb, Cc, Cd, Ce
-/
import Derived.Test.YtjkaicjmfgekjaaGreatDoorPkWa
set_option linter.all false
set_option maxRecDepth 100000
set_option maxHeartbeats 4000000
namespace Go.Proofs.YtjkaicjmfgekjaaGreatDoor
open Go.Proofs.Tryz
attribute [local irreducible] RD RS AA RL RA RT Cz Ai
section
structure AT where
 node:Int
 life:Int
instance : Enc AT:=Enc.struct (fun t=>[.int .i64 t.node,.int .i64 t.life]) 2 (fun _=>rfl) (fun _ v hv=>by simp at hv;rcases hv with rfl|rfl<;>rfl) Zd
theorem AT.ext' {a b:AT}(h0:a.node=b.node)(h1:a.life=b.life):a=b:=by cases a;cases b;simp_all
instance : DecidableEq AT:=fun a b=>if h:a.node=b.node∧a.life=b.life then isTrue (AT.ext' h.1 h.2)else isFalse (fun e=>h (by subst e;exact⟨rfl,rfl⟩))
theorem PG (m:Nat)(a b:AT)(w:World):(Op.equalIn (m+2) 170 (.agg #[.int .i64 a.node,.int .i64 a.life]) (.agg #[.int .i64 b.node,.int .i64 b.life])).run prog w= .ok (decide (a=b)) w:=by
 have h:=run_equalIn_struct (P:=prog) w (m+1) 170 #[.int .i64 a.node,.int .i64 a.life] #[.int .i64 b.node,.int .i64 b.life] underlying170 Zk
 have h2:=(A0 (P:=prog) (d:=m+1) (xs:=#[.int .i64 a.node,.int .i64 a.life]) (ys:=#[.int .i64 b.node,.int .i64 b.life]) (fd:=(prog.fieldsOf 170).toList[0]) (fs:=[(prog.fieldsOf 170).toList[1]]) (r:=a.node==b.node) Zk (Bu ty3 rfl) (Bu ty3 rfl) (fun w=>run_equalIn_int w m 3 .i64 .i64 a.node b.node underlying3) (A0 (P:=prog) (d:=m+1) (xs:=#[.int .i64 a.node,.int .i64 a.life]) (ys:=#[.int .i64 b.node,.int .i64 b.life]) (fd:=(prog.fieldsOf 170).toList[1]) (fs:=[]) (r:=a.life==b.life) Zk (Bu ty3 rfl) (Bu ty3 rfl) (fun w=>run_equalIn_int w m 3 .i64 .i64 a.life b.life underlying3) (CU (m+1) _ _))) w
 refine h.trans (h2.trans ?_)
 congr 1
 rw[AaC]
 simp only[Aao,beq_iff_eq,and_true,decide_eq_true_eq,E5]
 exact⟨fun h=>AT.ext' h.1 h.2,fun h=>by subst h;exact⟨rfl,rfl⟩⟩
theorem DZ (a b:AT)(w:World):(Op.equalIn 10000 170 (.agg #[.int .i64 a.node,.int .i64 a.life]) (.agg #[.int .i64 b.node,.int .i64 b.life])).run prog w= .ok (decide (a=b)) w:=PG 9998 a b w
def DQ (d:Ag):Prop:=(0<=d.node∧d.node<=4611686018427387904)∧(0<=d.life∧d.life<=4611686018427387904)∧(0<=d.count∧d.count<=4611686018427387904)
def AC (d:Ag):Prop:=(0<=d.node∧d.node<8)∧(1<=d.life∧d.life<=1099511627776)∧(1<=d.count∧d.count<=1099511627776)
instance : DecidablePred AC:=fun d=>by unfold AC;infer_instance
theorem AC.sm {d:Ag}(h:AC d):DQ d:=by unfold AC at h;unfold DQ;omega
abbrev Ab.d (m:Ab):Ag:=⟨m.node,m.life,m.count⟩
abbrev Ag.m (d:Ag):Ab:=⟨d.node,d.life,d.count⟩
abbrev Ab.z (m:Ab):Ag:=⟨m.node,m.life,0⟩
abbrev Ag.a (d:Ag):AT:=⟨d.node,d.life⟩
theorem AC.z {m:Ab}(h:AC m.d):DQ m.z:=by simp only[AC,Ab.d,DQ,Ab.z]at*;omega
def Bz (a b:Ag):Int:=if a.node=b.node then(if a.life=b.life then a.count-b.count else a.life-b.life)else a.node-b.node
def Cp (a b:Ag):Prop:=a.node<b.node∨a.node=b.node∧(a.life<b.life∨a.life=b.life∧a.count<b.count)
instance (a b:Ag):Decidable (Cp a b):=by unfold Cp;infer_instance
def BH (a b:Ab):Prop:=a.node<b.node∨a.node=b.node∧a.life<b.life
instance (a b:Ab):Decidable (BH a b):=by unfold BH;infer_instance
theorem Ag.eta {a b:Ag}(h1:a.node=b.node)(h2:a.life=b.life)(h3:a.count=b.count):a=b:=by cases a;cases b;simp_all
theorem EB {a b:Ag}:Bz a b<0↔Cp a b:=by
 unfold Bz Cp
 split
 ·split<;>constructor<;>omega
 ·constructor<;>omega
theorem Q1 {a b:Ag}:0<=Bz a b↔¬Cp a b:=by rw[<-EB];omega
theorem Q2 {a b:Ag}:Bz a b=0↔a=b:=by
 constructor
 ·intro h;unfold Bz at h;split at h
  ·split at h
   ·exact Ag.eta Zo Zo Zo
   ·omega
  ·omega
 ·rintro rfl;simp[Bz]
theorem Uu {a b:Ab}:0<=Bz a.z b.z↔¬BH a b:=by rw[Q1];simp only[Cp,BH,Ab.z];omega
theorem E2 {a b c:Ag}(h1:Cp a b)(h2:Cp b c):Cp a c:=by unfold Cp at*;omega
theorem M1 {a:Ag}:¬Cp a a:=by unfold Cp;omega
theorem JU {a b:Ag}(h:¬Cp a b)(h2:¬Cp b a):a=b:=by unfold Cp at*;exact Ag.eta Zo Zo Zo
theorem CZ {a b c:Ab}(h1:BH a b)(h2:BH b c):BH a c:=by unfold BH at*;omega
theorem M3 {a:Ab}:¬BH a a:=by unfold BH;omega
def B4 (ms:List Ab)(a:AT):Int:=match ms.find? (fun m=>decide (m.d.a=a))with|some m=>m.count|none=>0
theorem Yt {ms:List Ab}{a:AT}{i:Nat}{m:Ab}(hx:ms[i]? =some m)(ha:m.d.a=a)(hno:GL (fun m=>decide (m.d.a=a)) ms i):B4 ms a=m.count:=by
 have:ms.find? (fun m=>decide (m.d.a=a))=some m:=by
  rw[List.find?_eq_some_iff_getElem]
  obtain⟨hi,rfl⟩:=List.getElem?_eq_some_iff.1 hx
  exact⟨decide_eq_true ha,i,hi,rfl,fun j hj=>by
   have h:=hno j _ hj (List.getElem?_eq_getElem Zo)
   have h':¬(ms[j].d.a=a):=of_decide_eq_false h
   simp[h']⟩
 rw[B4,this]
theorem Yu {ms:List Ab}{a:AT}{i:Nat}(hno:GL (fun m=>decide (m.d.a=a)) ms i)(hi:ms.length<=i):B4 ms a=0:=by
 have:ms.find? (fun m=>decide (m.d.a=a))=none:=by
  rw[Abe]
  intro x hx
  obtain⟨j,hj,rfl⟩:=AaG hx
  have h:=hno j _ Zo (List.getElem?_eq_getElem hj)
  simp only at h
  simp[h]
 rw[B4,this]
def XL (ms:List Ab)(i:Nat):Prop:=∀m,ms[i]? =some m->AC m.d∧(0<i->∀x,ms[i-1]? =some x->BH x m)
def Sp (ms:List Ab)(cl:List Ag)(i:Nat):Prop:=∀d,cl[i]? =some d->AC d∧(0<i->∀x,cl[i-1]? =some x->Cp x d)∧B4 ms d.a+1<d.count
def Ew (ms:List Ab)(cl:List Ag):Prop:=ms.length<=64∧cl.length<=64∧(∀i,XL ms i)∧∀i,Sp ms cl i
open Classical in
noncomputable def BK (ms:List Ab)(cl:List Ag):Bool:=decide (Ew ms cl)
theorem Fj {ms:List Ab}{cl:List Ag}:BK ms cl=true↔Ew ms cl:=by simp[BK]
theorem Hn {ms:List Ab}{cl:List Ag}(h:¬Ew ms cl):BK ms cl=false:=by simp[BK,h]
theorem Gf {ms:List Ab}{cl:List Ag}(h:Ew ms cl):BK ms cl=true:=Fj.2 h
def Cb (ms:List Ab)(cl:List Ag)(d:Ag):Prop:=(1<=d.count∧d.count<=B4 ms d.a)∨(1<=d.count∧d∈cl)
instance (ms :List Ab)(cl:List Ag)(d:Ag):Decidable (Cb ms cl d):=by unfold Cb;infer_instance
section
variable {ms :List Ab}{cl:List Ag}{i:Nat}{m x:Ab}{d y:Ag}
theorem Ew.may (h:Ew ms cl)(hm:m∈ms):AC m.d:=by
 obtain⟨j,hj,rfl⟩:=AaG hm
 exact(h.2.2.1 j _ (List.getElem?_eq_getElem hj)).1
theorem Ew.mayC (h:Ew ms cl)(hd:d∈cl):AC d:=by
 obtain⟨j,hj,rfl⟩:=AaG hd
 exact(h.2.2.2 j _ (List.getElem?_eq_getElem hj)).1
theorem FG {a:AT}(h:B4 ms a≠0):∃m∈ms,m.d.a=a∧m.count=B4 ms a:=by
 unfold B4 at*
 split at h
 ·rename_i m hm
  exact⟨m,Acc hm,by simpa using List.find?_some hm,by simp⟩
 ·exact absurd rfl h
theorem Ew.cov (h:Ew ms cl)(hd:Cb ms cl d):AC d:=by
 rcases hd with⟨h1,h2⟩|⟨-,hd⟩
 ·obtain⟨m,hm,ha,e⟩:=FG (ms:=ms) (a:=d.a) Zo
  have:=h.may hm
  simp only[AC,Ab.d,Ag.a,AT.mk.injEq]at*
  omega
 ·exact h.mayC hd
theorem covers_ite :(decide (1<=d.count)&&(decide (d.count<=B4 ms d.a)||cl.any (d==·)))=decide (Cb ms cl d):=by
 rw[AaC,Aao,AbD,decide_eq_true_eq,decide_eq_true_eq,decide_eq_true_eq,Aa9]
 simp only[Cb,beq_iff_eq]
 constructor
 ·rintro⟨h1,h2|⟨x,hx,rfl⟩⟩
  ·exact .inl ⟨h1,h2⟩
  ·exact .inr ⟨h1,hx⟩
 ·rintro(⟨h1,h2⟩|⟨h1,h2⟩)
  ·exact⟨h1,.inl h2⟩
  ·exact⟨h1,.inr ⟨d,h2,rfl⟩⟩
end
attribute [local irreducible] X
theorem Yv (n:Int)(w:World):
  Calls prog 195 #[.int .i64 n] w (AN (fun v w'=>v= .bool (decide (0<=n)&&decide (n<8))∧Ap w w')):=by
 refine Ac (n:=9) func195 rfl rfl rfl ?_;refine jG ?_;refine jV (Be rfl rfl rfl) ?_;refine jG ?_;refine jJ func195 ?_;exact⟨_,rfl,rfl,(Ad.refl _ w)⟩
theorem Yw (n:Int)(w:World):
  Calls prog 196 #[.int .i64 n] w (AN (fun v w'=>v= .bool (decide (1<=n)&&decide (n<=1099511627776))∧Ap w w')):=by
 refine Ac (n:=9) func196 rfl rfl rfl ?_;refine jG ?_;refine jV (Be rfl rfl rfl) ?_;refine jG ?_;refine jJ func196 ?_;exact⟨_,rfl,rfl,(Ad.refl _ w)⟩
theorem Wx (n:Int)(w:World):
  Calls prog 197 #[.int .i64 n] w (AN (fun v w'=>v= .bool (decide (1<=n)&&decide (n<=1099511627776))∧Ap w w')):=by
 refine Ac (n:=9) func197 rfl rfl rfl ?_;refine jG ?_;refine jV (Be rfl rfl rfl) ?_;refine jG ?_;refine jJ func197 ?_;exact⟨_,rfl,rfl,(Ad.refl _ w)⟩
theorem Md (d:Ag)(w:World):
  Calls prog 137 #[.agg #[.int .i64 d.node,.int .i64 d.life,.int .i64 d.count]] w (AN (fun v w'=>v= .bool (decide (AC d))∧Ap w w')):=by
 refine Ac (n:=16) func137 rfl rfl rfl ?_;refine jG ?_;refine jR<|jB ?_;intro a4 a7 a1 a0 a5;have:w.heap.size<=a4:=a1;clear a1;have K0:=(a5:Ap w _);refine jG ?_;refine jR<|jC (Yv d.node _) ?_;rintro _ a8 ⟨rfl,a2⟩;replace a0:=a0.ext a2;refine jG ?_;refine RL.gcall (vals:=[.int .i64 d.life]) (BL rfl rfl rfl rfl) en196.h (fun hg=>(CR (BR hg) Hw)) (fun hg=>(Yw d.life _)) ?_;intro a9 a3;refine jV (Be rfl rfl rfl) ?_;replace a0:=a0.ext a3;refine jG ?_;refine RL.gcall (vals:=[.int .i64 d.count]) (BL rfl rfl rfl rfl) en197.h (fun hg=>(CR (BR hg) Hw)) (fun hg=>(Wx d.count _)) ?_;intro aa a6;refine jV (Be rfl rfl rfl) ?_;refine jG ?_;refine jJ func137 ?_;replace K0:=((K0.ext a2).ext a3).ext a6;exact⟨_,rfl,congrArg Value.bool (by rw[AaC];simp only[AC,Aao,decide_eq_true_eq,and_assoc]),K0⟩
theorem HV (m:Ab)(w:World):
  Calls prog 138 #[.agg #[.int .i64 m.node,.int .i64 m.life,.int .i64 m.count]] w (AN (fun v w'=>v= .agg #[.int .i64 m.d.node,.int .i64 m.d.life,.int .i64 m.d.count]∧Ap w w')):=by
 refine Ac (n:=4) func138 rfl rfl rfl ?_;refine jG ?_;refine jR<|jB ?_;intro a5 a8 a3 a0 a6;have:w.heap.size<=a5:=a3;clear a3;have K0:=(a6:Ap w _);refine jR<|jA ?_;intro a9 aa a1 a2 a4;have ab:=Ak a0.lt a1;have:=Aaa K0.size a1;clear a1;replace a0:=a0.ext a4;refine jG ?_;refine jR<|jS a2 ?_;intro ac a2 a7;refine jG ?_;refine Ai.retC (cs:=#[.int .i64 m.node,.int .i64 m.life,.int .i64 m.count]) func138 rfl ty73 rfl rfl a2.cl ?_;replace K0:=(K0.ext a4).n1 a7;exact⟨_,rfl,rfl,K0⟩
theorem FR (d:Ag)(w:World):
  Calls prog 141 #[.agg #[.int .i64 d.node,.int .i64 d.life,.int .i64 d.count]] w (AN (fun v w'=>v= .agg #[.int .i64 d.a.node,.int .i64 d.a.life]∧Ap w w')):=by
 refine Ac (n:=8) func141 rfl rfl rfl ?_;refine jG ?_;refine jR<|jB ?_;intro a5 a8 a3 a0 a6;have:w.heap.size<=a5:=a3;clear a3;have K0:=(a6:Ap w _);refine jR<|jA ?_;intro a9 aa a1 a2 a4;have ab:=Ak a0.lt a1;have:=Aaa K0.size a1;clear a1;replace a0:=a0.ext a4;refine jG ?_;refine jV (AI (cells:=#[.int .i64 d.node,.int .i64 d.life]) Zk) ?_;refine jR<|jS a2 ?_;intro ac a2 a7;refine jG ?_;refine Ai.retC (cs:=#[.int .i64 d.node,.int .i64 d.life]) func141 rfl ty170 rfl rfl a2.cl ?_;replace K0:=(K0.ext a4).n1 a7;exact⟨_,rfl,rfl,K0⟩
theorem PH (a b:Ag)(w:World)(ha:DQ a)(hb:DQ b):
  Calls prog 139 #[.agg #[.int .i64 a.node,.int .i64 a.life,.int .i64 a.count],.agg #[.int .i64 b.node,.int .i64 b.life,.int .i64 b.count]] w (AN (fun v w'=>v= .int .i64 (Bz a b)∧Ap w w')):=by
 obtain⟨ha1,ha2,ha3⟩:=ha;obtain⟨hb1,hb2,hb3⟩:=hb;refine Ac (n:=32) func139 rfl rfl rfl ?_;refine jG ?_;refine jR<|jB ?_;intro a4 a6 a2 a0 a5;have:w.heap.size<=a4:=a2;clear a2;have K0:=(a5:Ap w _);refine jR<|jB ?_;intro a7 a8 a1 a9 a3;have aa:=Ak a0.lt a1;have:=Aaa K0.size a1;clear a1;replace a0:=a0.ext a3;refine jG ?_;replace K0:=K0.ext a3;refine jF ?_ ?_
 ·intro hc5
  refine jG ?_;refine jV (BT rfl rfl Zo Zo) ?_;refine jG ?_;refine jJ func139 ?_;exact⟨_,rfl,by rw[Bz,if_neg hc5],K0⟩
 ·intro hc5
  refine jG ?_;refine jF ?_ ?_
  ·intro hc16
   refine jG ?_;refine jV (BT rfl rfl Zo Zo) ?_;refine jG ?_;refine jJ func139 ?_;exact⟨_,rfl,by rw[Bz,if_pos hc5,if_neg hc16],K0⟩
  ·intro hc16
   refine jG ?_;refine jV (BT rfl rfl Zo Zo) ?_;refine jG ?_;refine jJ func139 ?_;exact⟨_,rfl,by rw[Bz,if_pos hc5,if_pos hc16],K0⟩
theorem Oh (am:Option Addr)(ms:List Ab)(cm:Nat)(ac:Option Addr)(cl:List Ag)(cc:Nat)(a:AT)(w:World)(hs:Av w am ms)(ht:Av w ac cl)(hl:ms.length<=4294967295)(hl2:cl.length<=4294967295):
  Calls prog 140 #[.agg #[.slice am ms.length cm,.slice ac cl.length cc],.agg #[.int .i64 a.node,.int .i64 a.life]] w (AN (fun v w'=>v= .int .i64 (B4 ms a)∧Ap w w')):=by
 refine Ac (n:=22) func140 rfl rfl rfl ?_;refine jG ?_;refine jR<|jB ?_;intro ab ai ad a1 ah;have:w.heap.size<=ab:=ad;clear ad;have K0:=(ah:Ap w _);refine jR<|jB ?_;intro ae aj a8 a0 af;have ak:=Ak a1.lt a8;have:=Aaa K0.size a8;clear a8;replace a1:=a1.ext af;refine jG ?_;replace K0:=K0.ext af;refine Ai.loop (ι:=Nat) (fun i ρ' w'=>Holds ρ' [(3,jp ae),(8,.slice am ms.length cm),(9,.int .i64 ((ms.length:Nat):Int)),(10,.int .i64 ((i:Nat):Int))]∧Ap w w'∧(AB w' ab [.slice am ms.length cm,.slice ac cl.length cc] 31)∧(AB w' ae [.int .i64 a.node,.int .i64 a.life] 170)∧(i<=ms.length)∧(GL (fun m=>decide (m.d.a=a)) ms i)) (fun i=>ms.length-i) 0 ?_ ?_
 ·refine⟨⟨rfl,rfl,rfl,rfl,trivial⟩,K0,a1,a0,?_,?_⟩
  ·omega
  ·exact GL.zero _ _
 clear a1 a0;clear K0;rintro i al an ⟨ag,K0,a1,a0,hi,hno⟩ ih1;obtain⟨ρ₀,rfl⟩:=ag.ex;clear ag;refine jG ?_;refine jF ?_ ?_
 ·intro hc11
  obtain⟨ao,ap,m,hx,aq,a4⟩:=hs.eo i;have hc_18_lt:=a4.lt;replace a4:=a4.ext K0;refine jG ?_;refine jR<|jA ?_;intro ar au a3 a2 a9;have av:=Ak a1.lt a3;have aw:=Ak a0.lt a3;have ax:=Ak a4.lt a3;have:=Aaa K0.size a3;clear a3;refine jR<|jS a2 ?_;intro ay a2 aa;refine jG ?_;refine Ai.drawS [] [1000,1003,2001,2002,4] ?_;intro az a5;replace a0:=((a0.ext a9).kp aa).ext a5;replace a2:=a2.ext a5;refine jM (jb a0 (jb a2 Jn)) ?_;refine jG ?_;refine jU rfl<|jC (HV m _) ?_;rintro _ aA ⟨rfl,a6⟩;replace a0:=a0.ext a6;replace a2:=a2.ext a6;refine jG ?_;refine jU rfl<|jC (FR (Ab.d m) _) ?_;rintro _ aB ⟨rfl,a7⟩;replace a0:=a0.ext a7;replace a2:=a2.ext a7;refine jG ?_;refine jP ?_ (hx:=by exact fun _=>(GJ Zk rfl rfl (DZ (Ag.a (Ab.d m)) a)));refine jG ?_;replace a1:=((((a1.ext a9).kp aa).ext a5).ext a6).ext a7;replace K0:=((((K0.ext a9).n1 aa).ext a5).ext a6).ext a7;refine jF ?_ ?_
  ·intro hc18
   refine jG ?_;refine jJ func140 ?_;exact⟨_,rfl,by rw[Yt hx hc18 hno],K0⟩
  ·intro hc18
   refine jG ?_;refine jV (Az (c:=((i+1:Nat):Int)) (Au rfl rfl Zo Zo) rfl) ?_;refine jG ?_;refine ih1 (i+1) _ _ ?_ Zo;refine⟨⟨rfl,rfl,rfl,rfl,trivial⟩,K0,a1,a0,?_,?_⟩
   ·omega
   ·exact hno.step hx (decide_eq_false hc18)
 ·intro hc11
  refine jG ?_;refine jJ func140 ?_;exact⟨_,rfl,by rw[Yu hno Zo],K0⟩
theorem Wy (a:Option Addr)(xs:List Ag)(c:Nat)(x:Ag)(w:World)(hs:Av w a xs)(hl:xs.length<=4294967295):
  Calls prog 240 #[.slice a xs.length c,.agg #[.int .i64 x.node,.int .i64 x.life,.int .i64 x.count]] w (AN (fun v w'=>v= .int .i64 (F2 (x==·) xs)∧Ap w w')):=by
 refine Ac (n:=19) func240 rfl rfl rfl ?_;refine jG ?_;refine jR<|jB ?_;intro a1 a7 a4 a0 a6;have:w.heap.size<=a1:=a4;clear a4;have K0:=(a6:Ap w _);refine jG ?_;refine Ai.loop (ι:=Nat) (fun i ρ' w'=>Holds ρ' [(0,.slice a xs.length c),(3,jp a1),(7,.int .i64 ((xs.length:Nat):Int)),(8,.int .i64 ((i:Nat):Int))]∧Ap w w'∧(AB w' a1 [.int .i64 x.node,.int .i64 x.life,.int .i64 x.count] 73)∧(i<=xs.length)∧(GL (x==·) xs i)) (fun i=>xs.length-i) 0 ?_ ?_
 ·refine⟨⟨rfl,rfl,rfl,rfl,trivial⟩,K0,a0,?_,?_⟩
  ·omega
  ·exact GL.zero _ _
 clear a0;clear K0;rintro i a8 a9 ⟨a5,K0,a0,hi,hno⟩ ih1;obtain⟨ρ₀,rfl⟩:=a5.ex;clear a5;refine jG ?_;refine jF ?_ ?_
 ·intro hc9
  refine jG ?_;obtain⟨aa,ab,e,hx,ac,a2⟩:=hs.eo i;have hc_14_lt:=a2.lt;refine Ai.drawR ?_;intro ad a3;replace a2:=(a2.ext K0).ext a3;replace a0:=a0.ext a3;refine jG ?_;refine jD (GJ Zk rfl rfl (Gz x e)) ?_;refine jG ?_;replace K0:=K0.ext a3;refine jF ?_ ?_
  ·intro hc16
   refine jG ?_;refine jJ func240 ?_;exact⟨_,rfl,by rw[GT hx (by simpa using hc16) hno],K0⟩
  ·intro hc16
   refine jG ?_;refine jV (Az (c:=((i+1:Nat):Int)) (Au rfl rfl Zo Zo) rfl) ?_;refine jG ?_;refine ih1 (i+1) _ _ ?_ Zo;refine⟨⟨rfl,rfl,rfl,rfl,trivial⟩,K0,a0,?_,?_⟩
   ·omega
   ·exact hno.step hx (by simpa using hc16)
 ·intro hc9
  refine jG ?_;refine jJ func240 ?_;exact⟨_,rfl,by rw[F3 hno Zo],K0⟩
theorem PI (a:Option Addr)(xs:List Ag)(c:Nat)(x:Ag)(w:World)(hs:Av w a xs)(hl:xs.length<=4294967295):
  Calls prog 202 #[.slice a xs.length c,.agg #[.int .i64 x.node,.int .i64 x.life,.int .i64 x.count]] w (AN (fun v w'=>v= .bool (xs.any (x==·))∧Ap w w')):=by
 refine Ac (n:=9) func202 rfl rfl rfl ?_;refine jG ?_;refine jR<|jB ?_;intro a1 a4 a0 a5 a2;have:w.heap.size<=a1:=a0;clear a0;have K0:=(a2:Ap w _);refine jG ?_;refine jR<|jC (Wy _ _ _ x _ (hs.ext K0) Zo) ?_;rintro _ a6 ⟨rfl,a3⟩;refine jG ?_;refine jJ func202 ?_;replace K0:=K0.ext a3;exact⟨_,rfl,by rw[GU],K0⟩
theorem Q3 (a:Option Addr)(xs:List Ag)(c:Nat)(d:Option Addr)(ys:List Ag)(e:Nat)(w:World)(hs:Av w a xs)(ht:Av w d ys)(hl:xs.length<=4294967295):
  Calls prog 84 #[.slice a xs.length c,.slice d ys.length e] w (AN (fun v w'=>v= .bool (decide (xs=ys))∧Ap w w')):=by
 refine Ac (n:=26) func84 rfl rfl rfl ?_;refine jG ?_;refine jF ?_ ?_
 ·intro hc10
  refine jG ?_;refine jJ func84 ?_;exact⟨_,rfl,by rw[decide_eq_false (fun h=>hc10 (by rw[h]))],(Ad.refl _ w)⟩
 ·intro hc10
  have hlen:xs.length=ys.length:=by omega
  refine jG ?_;refine Ai.loop (ι:=Nat) (fun i ρ' w'=>Holds ρ' [(0,.slice a xs.length c),(1,.slice d ys.length e),(12,.int .i64 ((xs.length:Nat):Int)),(13,.int .i64 ((i:Nat):Int))]∧Ap w w'∧(i<=xs.length)∧(ED xs ys i)) (fun i=>xs.length-i) 0 ?_ ?_
  ·refine⟨⟨rfl,rfl,rfl,rfl,trivial⟩,(Ad.refl _ w),?_,?_⟩
   ·omega
   ·exact ED.zero _ _
  rintro i a4 a5 ⟨a3,K0,hi,hno⟩ ih1;obtain⟨ρ₀,rfl⟩:=a3.ex;clear a3;refine jG ?_;refine jF ?_ ?_
  ·intro hc14
   refine jG ?_;obtain⟨a6,a7,x,hx,a8,a0⟩:=hs.eo i;have hc_9_lt:=a0.lt;obtain⟨a9,aa,y,hy,ab,a1⟩:=ht.eo i;have hc_15_lt:=a1.lt;refine Ai.drawR ?_;intro ac a2;replace a0:=(a0.ext K0).ext a2;replace a1:=(a1.ext K0).ext a2;refine jG ?_;refine jD (Jg Zk rfl rfl (Gz x y)) ?_;refine jG ?_;replace K0:=K0.ext a2;refine jF ?_ ?_
   ·intro hc24
    refine jG ?_;refine jJ func84 ?_;exact⟨_,rfl,by rw[decide_eq_false (GV hx hy hc24)],K0⟩
   ·intro hc24
    refine jG ?_;refine jV (Az (c:=((i+1:Nat):Int)) (Au rfl rfl Zo Zo) rfl) ?_;refine jG ?_;refine ih1 (i+1) _ _ ?_ Zo;refine⟨⟨rfl,rfl,rfl,rfl,trivial⟩,K0,?_,?_⟩
    ·omega
    ·exact hno.step hx hy hc24
  ·intro hc14
   refine jG ?_;refine jJ func84 ?_;exact⟨_,rfl,by rw[decide_eq_true (hno.all hlen Zo)],K0⟩
theorem M4 (a:Option Addr)(xs:List Ag)(c:Nat)(w:World)(hs:Av w a xs)(hl:xs.length<=4294967295):
  Calls prog 86 #[.slice a xs.length c] w (AN (fun v w'=>∃a' c',v= .slice a' xs.length c'∧Af w' 73 a' c' xs∧(∀b,own a' b->w.heap.size<=b)∧Ap w w')):=by
 refine Ac (n:=8) func86 rfl rfl rfl ?_;refine jG ?_;refine jV (JI underlying29 rfl rfl) ?_;refine jG ?_;refine Ai.cond rfl (fun hc4=> ?_) (fun hc4=> ?_)
 ·skip
  refine jG ?_;refine jJ func86 ?_;have hx:=hs.nil_of hc4;subst hx;exact⟨_,rfl,none,0,rfl,Af.nil _ _,fun b h=>absurd h (Ae b),(Ad.refl _ w)⟩
 ·skip
  refine jG ?_;refine jR<|AA.buildSlice ([]:List Ag) underlying29 ty73 rfl rfl Ze ?_;intro ab ac a0 a4 a5;have a1:=Bd (Aac _) (CV a0);clear a0;have K0:=(a5:Ap w _);refine jG ?_;refine jR<|AA.append (xs:=([]:List Ag)) (ys:=xs) underlying29 ty73 rfl rfl rfl a4 (hs.ext K0) Zr Zd ?_;intro a2 a6 ad a7 a8 a3 a9;have aa:∀q_,own a2 q_->w.heap.size<=q_:=a3.ge a1 K0.size;clear a3;clear a9;refine jG ?_;refine jJ func86 ?_;replace K0:=K0.new a8 a1;exact⟨_,rfl,a2,a6,by rw[Aaz],by simpa using a7,aa,K0⟩
theorem JV (am:Option Addr)(ms:List Ab)(cm:Nat)(ac:Option Addr)(cl:List Ag)(cc:Nat)(d:Ag)(w:World)(hs:Av w am ms)(ht:Av w ac cl)(hl:ms.length<=4294967295)(hl2:cl.length<=4294967295):
  Calls prog 144 #[.agg #[.slice am ms.length cm,.slice ac cl.length cc],.agg #[.int .i64 d.node,.int .i64 d.life,.int .i64 d.count]] w (AN (fun v w'=>v= .bool (decide (Cb ms cl d))∧Ap w w')):=by
 refine Ac (n:=23) func144 rfl rfl rfl ?_;refine jG ?_;refine jR<|jB ?_;intro a9 ab a7 a0 aa;have:w.heap.size<=a9:=a7;clear a7;have K0:=(aa:Ap w _);refine jR<|jB ?_;intro ad ae a2 a1 a8;have af:=Ak a0.lt a2;have:=Aaa K0.size a2;clear a2;refine jG ?_;refine Ai.drawS [] [0,1001,2,3,4,1005,1006,1007,2008,2009,10,11,12,1013,1014,2015,16,17,18] ?_;intro ag a3;replace a0:=(a0.ext a8).ext a3;replace a1:=a1.ext a3;refine jM (jb a0 (jb a1 Jn)) ?_;refine jG ?_;refine jZ (fun hg=>(FR d _)) ?_;intro ah a4;replace a0:=a0.ext a4;replace a1:=a1.ext a4;refine jG ?_;replace K0:=((K0.ext a8).ext a3).ext a4;refine jZ (fun hg=>(Oh am ms cm ac cl cc (Ag.a d) _ (hs.ext K0) (ht.ext K0) Zo Zo)) ?_;intro ai a5;replace a0:=a0.ext a5;replace a1:=a1.ext a5;refine jG ?_;replace K0:=K0.ext a5;refine jZ (fun hg=>(PI _ _ _ d _ (ht.ext K0) Zo)) ?_;intro aj a6;replace a0:=a0.ext a6;replace a1:=a1.ext a6;refine jG ?_;refine jQ ?_ (hx:=by exact fun _ hg=>(Ka hg rfl rfl rfl));refine jP ?_ (hx:=by exact fun _=>(Be rfl rfl rfl));refine jG ?_;refine jJ func144 ?_;replace K0:=K0.ext a6;exact⟨_,rfl,by rw[<-covers_ite],K0⟩
end
section
theorem HW {α : Type} {r : α -> α -> Prop} (irr : ∀ a, ¬ r a a) (tr : ∀ a b c, r a b -> r b c -> r a c) :
    ∀ {l l' : List α}, l.Pairwise r -> l'.Pairwise r -> (∀ x, x ∈ l ↔ x ∈ l') -> l = l'
  | [], [], _, _, _ => rfl
  | [], b :: l', _, _, h => absurd ((h b).2 Zs) Zs
  | a :: l, [], _, _, h => absurd ((h a).1 Zs) Zs
  | a :: l, b :: l', h1, h2, h => by
    rw [Aav] at h1 h2
    have hab : a = b := by
      rcases List.mem_cons.1 ((h a).1 Zs) with e | ha
      · exact e
      · rcases List.mem_cons.1 ((h b).2 Zs) with e | hb
        · exact e.symm
        · exact absurd (tr _ _ _ (h1.1 b hb) (h2.1 a ha)) (irr a)
    subst hab
    congr 1
    refine HW irr tr h1.2 h2.2 fun x => ⟨fun hx => ?_, fun hx => ?_⟩
    · rcases List.mem_cons.1 ((h x).1 (AaB _ hx)) with e | h3
      · subst e; exact absurd (h1.1 x hx) (irr x)
      · exact h3
    · rcases List.mem_cons.1 ((h x).2 (AaB _ hx)) with e | h3
      · subst e; exact absurd (h2.1 x hx) (irr x)
      · exact h3
theorem Sq {l l':List Ab}(h1:l.Pairwise BH)(h2:l'.Pairwise BH)(h:∀x,x∈l↔x∈l'):l=l':=
 HW (fun _=>M3) (fun _ _ _=>CZ) h1 h2 h
theorem Sr {l l':List Ag}(h1:l.Pairwise Cp)(h2:l'.Pairwise Cp)(h:∀x,x∈l↔x∈l'):l=l':=
 HW (fun _=>M1) (fun _ _ _=>E2) h1 h2 h
theorem KO {a b:Ab}(h:BH a b):a.d.a≠b.d.a:=by
 simp only[Ab.d,Ag.a,ne_eq,AT.mk.injEq];unfold BH at h;omega
theorem M5 {a b:Ab}(h:a.d.a≠b.d.a):BH a b∨BH b a:=by
 simp only[Ab.d,Ag.a,ne_eq,AT.mk.injEq]at h;unfold BH;omega
theorem Me {a b c:Ab}(h:a.d.a=b.d.a):BH a c↔BH b c:=by
 simp only[Ab.d,Ag.a,AT.mk.injEq]at h;unfold BH;omega
theorem KP {a b c:Ab}(h:a.d.a=b.d.a):BH c a↔BH c b:=by
 simp only[Ab.d,Ag.a,AT.mk.injEq]at h;unfold BH;omega
theorem Ab.eta {a b:Ab}(h:a.d.a=b.d.a)(h2:a.count=b.count):a=b:=by
 cases a;cases b;simp only[Ab.d,Ag.a,AT.mk.injEq]at h;simp_all
theorem Fl (m:Ab)(l:List Ab)(a:AT):B4 (m::l) a=if m.d.a=a then m.count else B4 l a:=by
 unfold B4
 rw[Abk]
 by_cases h:m.d.a=a
 ·simp[h]
 ·simp[h]
theorem Fm {l : List Ab} (h : l.Pairwise BH) {m : Ab} (hm : m ∈ l) : B4 l m.d.a = m.count := by
  induction l with
  | nil => cases hm
  | cons x l ih =>
    rw [Aav] at h
    rw [Fl]
    rcases List.mem_cons.1 hm with rfl | h2
    · rw [if_pos rfl]
    · rw [if_neg (KO (h.1 m h2)), ih h.2 h2]
structure Co (ms:List Ab)(cl:List Ag):Prop where
 hm:ms.Pairwise BH
 hp:∀m∈ms,1<=m.count
 hc:cl.Pairwise Cp
 hg:∀d∈cl,B4 ms d.a+1<d.count
theorem Co.pos {ms:List Ab}{cl:List Ag}(h:Co ms cl)(a:AT):0<=B4 ms a:=by
 by_cases hz:B4 ms a=0
 ·omega
 ·obtain⟨m,hm,-,e⟩:=FG hz
  have:=h.hp m hm;omega
theorem Co.nil :Co [] []:=⟨List.Pairwise.nil,by simp,List.Pairwise.nil,by simp⟩
theorem KQ {ms ms':List Ab}{cl cl':List Ag}(h:Co ms cl)(h':Co ms' cl')(he:∀d,Cb ms cl d->Cb ms' cl' d)(a:AT):B4 ms a<=B4 ms' a:=by
 obtain⟨an,al⟩:=a
 refine Decidable.byContradiction fun hlt=> ?_
 have hp':=h'.pos ⟨an,al⟩
 have hq:Cb ms cl ⟨an,al,B4 ms' ⟨an,al⟩+1⟩:= .inl ⟨by show(1:Int)<=B4 ms' ⟨an,al⟩+1;omega,by show B4 ms' ⟨an,al⟩+1<=B4 ms ⟨an,al⟩;omega⟩
 rcases he _ hq with⟨_,h2⟩|⟨_,h2⟩
 ·replace h2:B4 ms' ⟨an,al⟩+1<=B4 ms' ⟨an,al⟩:=h2;omega
 ·have h3:B4 ms' ⟨an,al⟩+1<B4 ms' ⟨an,al⟩+1:=h'.hg _ h2;omega
theorem Ss {ms ms':List Ab}{cl cl':List Ag}(h:Co ms cl)(h':Co ms' cl')(he:∀d,Cb ms cl d↔Cb ms' cl' d):ms=ms'∧cl=cl':=by
 have hmk:∀a,B4 ms a=B4 ms' a:=fun a=>Int.le_antisymm (KQ h h' (fun d=>(he d).1) a) (KQ h' h (fun d=>(he d).2) a)
 have hsub:∀{ms ms':List Ab},ms.Pairwise BH->(∀m∈ms,1<=m.count)->ms'.Pairwise BH->(∀a,B4 ms a=B4 ms' a)->∀m∈ms,m∈ms':=by
  intro ms ms' h1 h2 h3 h4 m hm
  have e:=Fm h1 hm
  have p:=h2 m hm
  obtain⟨x,hx,ha,hc⟩:=FG (ms:=ms') (a:=m.d.a) (by rw[<-h4];omega)
  have:x=m:=Ab.eta ha (by rw[hc,<-h4,e])
  exact this▸hx
 have e1:ms=ms':=Sq h.hm h'.hm fun m=>⟨hsub h.hm h.hp h'.hm hmk m,hsub h'.hm h'.hp h.hm (fun a=>(hmk a).symm) m⟩
 refine⟨e1,Sr h.hc h'.hc ?_⟩
 subst e1
 have hs:∀{cl cl':List Ag},Co ms cl->Co ms cl'->(∀d,Cb ms cl d->Cb ms cl' d)->∀d∈cl,d∈cl':=by
  intro cl cl' h h' he d hd
  have hg:=h.hg d hd
  have hp:=h.pos d.a
  rcases he d (.inr ⟨by omega,hd⟩)with⟨_,h2⟩|⟨_,h2⟩
  ·omega
  ·exact h2
 exact fun d=>⟨hs h h' (fun d=>(he d).1) d,hs h' h (fun d=>(he d).2) d⟩
theorem Ef {α : Type} {r : α -> α -> Prop} (tr : ∀ a b c, r a b -> r b c -> r a c) {l : List α} (h : ∀ i x y, l[i]? = some x -> l[i + 1]? = some y -> r x y) : l.Pairwise r := by
  induction l with
  | nil => exact List.Pairwise.nil
  | cons a l ih =>
    have hl := ih fun i x y h1 h2 => h (i + 1) x y (by simpa using h1) (by simpa using h2)
    refine List.pairwise_cons.2 ⟨?_, hl⟩
    cases l with
    | nil => simp
    | cons b l =>
      have hab := h 0 a b rfl rfl
      intro x hx
      rcases List.mem_cons.1 hx with rfl | hx
      · exact hab
      · exact tr _ _ _ hab ((List.pairwise_cons.1 hl).1 x hx)
theorem D1 {α:Type}{r:α->α->Prop}{l:List α}(h:l.Pairwise r){i j:Nat}{x y:α}(hij:i<j)(hx:l[i]? =some x)(hy:l[j]? =some y):r x y:=by
 obtain⟨hi,rfl⟩:=List.getElem?_eq_some_iff.1 hx
 obtain⟨hj,rfl⟩:=List.getElem?_eq_some_iff.1 hy
 exact List.pairwise_iff_getElem.1 h i j hi hj hij
theorem Ew.canon {ms:List Ab}{cl:List Ag}(h:Ew ms cl):Co ms cl:=by
 refine⟨Ef (r:=BH) (fun _ _ _=>CZ) fun i x y hx hy=> ?_,fun m hm=>(h.may hm).2.2.1,Ef (r:=Cp) (fun _ _ _=>E2) fun i x y hx hy=> ?_,fun d hd=> ?_⟩
 ·exact((h.2.2.1 (i+1)) y hy).2 Zo x hx
 ·exact((h.2.2.2 (i+1)) y hy).2.1 Zo x hx
 ·obtain⟨j,hj,rfl⟩:=AaG hd
  exact(h.2.2.2 j _ (List.getElem?_eq_getElem hj)).2.2
theorem Co.can {ms:List Ab}{cl:List Ag}(h:Co ms cl)(h1:ms.length<=64)(h2:cl.length<=64)(h3:∀m∈ms,AC m.d)(h4:∀d∈cl,AC d):Ew ms cl:=by
 refine⟨h1,h2,fun i m hm=>⟨h3 m (Aan hm),fun hi x hx=>D1 h.hm Zo hx hm⟩,fun i d hd=>⟨h4 d (Aan hd),fun hi x hx=>D1 h.hc Zo hx hd,h.hg d (Aan hd)⟩⟩
theorem Co.may {ms:List Ab}{cl:List Ag}(h:Co ms cl)(hd:∀d,Cb ms cl d->AC d):(∀m∈ms,AC m.d)∧∀d∈cl,AC d:=by
 refine⟨fun m hm=>hd _ (.inl ⟨h.hp m hm,?_⟩),fun d hd'=>hd _ (.inr ⟨?_,hd'⟩)⟩
 ·rw[Fm h.hm hm];exact Int.le_refl _
 ·have:=h.hg d hd';have:=h.pos d.a;omega
def Jq (M:List Ab)(D:List Ag)(d:Ag):Prop:=1<=d.count∧((∃m∈M,m.d.a=d.a∧d.count<=m.count)∨d∈D)
theorem Co.raw {ms:List Ab}{cl:List Ag}(h:Co ms cl)(d:Ag):Cb ms cl d↔Jq ms cl d:=by
 constructor
 ·rintro(⟨h1,h2⟩|⟨h1,h2⟩)
  ·obtain⟨m,hm,ha,hc⟩:=FG (ms:=ms) (a:=d.a) Zo
   exact⟨h1,.inl ⟨m,hm,ha,by omega⟩⟩
  ·exact⟨h1,.inr h2⟩
 ·rintro⟨h1,⟨m,hm,ha,hc⟩|h2⟩
  ·refine .inl ⟨h1,?_⟩
   rw[<-ha,Fm h.hm hm];exact hc
  ·exact .inr ⟨h1,h2⟩
theorem Co.of_raw {ms M:List Ab}{cl D:List Ag}(h:Co ms cl)(hr:∀d,Jq ms cl d↔Jq M D d):∀d,Cb ms cl d↔Jq M D d:=fun d=>(h.raw d).trans (hr d)
def Tk (a b:Ag):Bool:= !decide (Cp b a)
def Bb (l:List Ag):List Ag:=l.mergeSort Tk
theorem St (a b c:Ag)(h1:Tk a b=true)(h2:Tk b c=true):Tk a c=true:=by
 simp only[Tk,AaO,decide_eq_false_iff_not]at*;unfold Cp at*;omega
theorem Su (a b:Ag):(Tk a b||Tk b a)=true:=by
 simp only[Tk,AbD,AaO,decide_eq_false_iff_not];unfold Cp;omega
theorem Ex {l:List Ag}{d:Ag}:d∈Bb l↔d∈l:=List.mem_mergeSort
theorem KR (l:List Ag):(Bb l).Pairwise (fun a b=>¬Cp b a):=by
 have:=List.pairwise_mergeSort (le:=Tk) St Su l
 exact this.imp fun h=>by simpa[Tk]using h
def C0 (acc:List Ab)(d:Ag):List Ab:=
 match acc.getLast? with
 |some m=>if m.d.a=d.a then acc.dropLast++[⟨m.node,m.life,d.count⟩]else acc++[d.m]
 |none=>[d.m]
def CP (l:List Ag):List Ab:=l.foldl C0 []
theorem Jr (acc:List Ab)(m:Ab)(d:Ag):C0 (acc++[m]) d=if m.d.a=d.a then acc++[⟨m.node,m.life,d.count⟩]else acc++[m]++[d.m]:=by
 unfold C0;rw[List.getLast?_append];simp
theorem KS (d:Ag):C0 [] d=[d.m]:=rfl
structure GA (acc:List Ab)(l:List Ag):Prop where
 hm:acc.Pairwise BH
 hp:∀m∈acc,1<=m.count
 hl:∀m,acc.getLast? =some m->l.getLast? =some m.d
 he:acc=[]↔l=[]
 hr:∀d:Ag,1<=d.count->((∃m∈acc,m.d.a=d.a∧d.count<=m.count)↔∃x∈l,x.a=d.a∧d.count<=x.count)
theorem GA.step {acc:List Ab}{l:List Ag}{d:Ag}(h:GA acc l)(hd:1<=d.count)(hle:∀x∈l,¬Cp d x):GA (C0 acc d) (l++[d]):=by
 rcases List.eq_nil_or_concat acc with rfl|⟨ls,m,rfl⟩
 ·have:=h.he.1 rfl;subst this
  rw[KS]
  refine⟨by simp,by simpa using hd,by simp,by simp,fun e he=> ?_⟩
  simp
 ·rw[List.concat_eq_append]at h⊢
  have hlast:=h.hl m Zs
  have hml:m.d∈l:=List.mem_of_getLast? hlast
  have hmd:=hle _ hml
  have hm:=h.hm
  rw[Aa2]at hm
  have hp:=h.hp
  rw[Jr]
  by_cases ha:m.d.a=d.a
  ·rw[if_pos ha]
   have hc:m.count<=d.count:=by
    simp only[Ab.d,Ag.a,AT.mk.injEq]at ha;simp only[Ab.d,Cp]at hmd;omega
   refine⟨List.pairwise_append.2 ⟨hm.1,by simp,fun x hx y hy=> ?_⟩,fun x hx=> ?_,fun x hx=> ?_,by simp,fun e he=> ?_⟩
   ·simp only[Aah]at hy;subst hy
    exact(KP (a:=m) rfl).1 (hm.2.2 x hx m Zs)
   ·rcases List.mem_append.1 hx with h2|h2
    ·exact hp x (by simp[h2])
    ·simp only[Aah]at h2;subst h2;exact hd
   ·simp only[List.getLast?_append,List.getLast?_singleton,Option.some_or,Option.some.injEq]at hx⊢
    subst hx
    simp only[Ab.d,Ag.a,AT.mk.injEq]at ha⊢
    exact Ag.eta ha.1.symm ha.2.symm rfl
   ·have h0:=h.hr e he
    constructor
    ·rintro⟨x,hx,h1,h2⟩
     rcases List.mem_append.1 hx with h3|h3
     ·obtain⟨y,hy,h4⟩:=h0.1 ⟨x,by simp[h3],h1,h2⟩
      exact⟨y,by simp[hy],h4⟩
     ·simp only[Aah]at h3;subst h3
      exact⟨d,by simp,ha▸h1,h2⟩
    ·rintro⟨x,hx,h1,h2⟩
     rcases List.mem_append.1 hx with h3|h3
     ·obtain⟨y,hy,h4,h5⟩:=h0.2 ⟨x,h3,h1,h2⟩
      rcases List.mem_append.1 hy with h6|h6
      ·exact⟨y,by simp[h6],h4,h5⟩
      ·simp only[Aah]at h6;subst h6
       exact⟨_,AaP _ (List.mem_singleton.2 rfl),h4,Int.le_trans h5 hc⟩
     ·simp only[Aah]at h3;subst h3
      exact⟨_,AaP _ (List.mem_singleton.2 rfl),ha.trans h1,h2⟩
  ·rw[if_neg ha]
   have hlt:BH m d.m:=by
    simp only[Ab.d,Ag.a,AT.mk.injEq]at ha;simp only[Ab.d,Cp]at hmd;simp only[BH];omega
   refine⟨List.pairwise_append.2 ⟨h.hm,by simp,fun x hx y hy=> ?_⟩,fun x hx=> ?_,fun x hx=> ?_,by simp,fun e he=> ?_⟩
   ·simp only[Aah]at hy;subst hy
    rcases List.mem_append.1 hx with h2|h2
    ·exact CZ (hm.2.2 x h2 m Zs) hlt
    ·simp only[Aah]at h2;subst h2;exact hlt
   ·rcases List.mem_append.1 hx with h2|h2
    ·exact hp x h2
    ·simp only[Aah]at h2;subst h2;exact hd
   ·simp only[List.getLast?_append,List.getLast?_singleton,Option.some_or,Option.some.injEq]at hx⊢
    subst hx;rfl
   ·have h0:=h.hr e he
    constructor
    ·rintro⟨x,hx,h1,h2⟩
     rcases List.mem_append.1 hx with h3|h3
     ·obtain⟨y,hy,h4⟩:=h0.1 ⟨x,h3,h1,h2⟩
      exact⟨y,by simp[hy],h4⟩
     ·simp only[Aah]at h3;subst h3
      exact⟨d,by simp,h1,h2⟩
    ·rintro⟨x,hx,h1,h2⟩
     rcases List.mem_append.1 hx with h3|h3
     ·obtain⟨y,hy,h4⟩:=h0.2 ⟨x,h3,h1,h2⟩
      exact⟨y,AaM _ hy,h4⟩
     ·simp only[Aah]at h3;subst h3
      exact⟨x.m,AaP _ Zs,h1,h2⟩
theorem GA.all {l : List Ag} (hp : ∀ d ∈ l, 1 <= d.count) (hs : l.Pairwise (fun a b => ¬ Cp b a)) : GA (CP l) l := by
  have key : ∀ (r l : List Ag) (acc : List Ab), GA acc l -> (∀ d ∈ r, 1 <= d.count) -> (l ++ r).Pairwise (fun a b => ¬ Cp b a) -> GA (r.foldl C0 acc) (l ++ r) := by
    intro r
    induction r with
    | nil => intro l acc h _ _; simpa using h
    | cons d r ih =>
      intro l acc h h1 h2
      have := ih (l ++ [d]) (C0 acc d) (h.step (h1 d Zs) fun x hx => (List.pairwise_append.1 h2).2.2 x hx d Zs) (fun x hx => h1 x (by simp [hx])) (by simpa using h2)
      simpa using this
  have h := key l [] [] ⟨List.Pairwise.nil, by simp, by simp, by simp, by simp⟩ hp (by simpa using hs)
  rw [Aaz] at h
  exact h
def setM :List Ab->Ag->List Ab
 |[],d=>[d.m]
 |m::l,d=>if m.d.a=d.a then⟨m.node,m.life,d.count⟩::l else if BH d.m m then d.m::m::l else m::setM l d
theorem G7 {l : List Ab} {d : Ag} {x : Ab} (h : x ∈ setM l d) : x = d.m ∨ x ∈ l := by
  induction l with
  | nil => simp [setM] at h; exact .inl h
  | cons m l ih =>
    rw [setM] at h
    split at h
    · rename_i ha
      rcases List.mem_cons.1 h with rfl | h
      · exact .inl (Ab.eta ha rfl)
      · exact .inr (by simp [h])
    · split at h
      · rcases List.mem_cons.1 h with rfl | h
        · exact .inl rfl
        · exact .inr h
      · rcases List.mem_cons.1 h with rfl | h
        · exact .inr Zs
        · rcases ih h with h | h
          · exact .inl h
          · exact .inr (by simp [h])
theorem FH {l : List Ab} {d : Ag} (h : l.Pairwise BH) : (setM l d).Pairwise BH := by
  induction l with
  | nil => simp [setM]
  | cons m l ih =>
    rw [Aav] at h
    rw [setM]
    split
    · exact List.pairwise_cons.2 ⟨fun x hx => (Me (a := m) rfl).1 (h.1 x hx), h.2⟩
    · rename_i ha
      split
      · rename_i hlt
        refine List.pairwise_cons.2 ⟨fun x hx => ?_, List.pairwise_cons.2 h⟩
        rcases List.mem_cons.1 hx with rfl | hx
        · exact hlt
        · exact CZ hlt (h.1 x hx)
      · rename_i hlt
        refine List.pairwise_cons.2 ⟨fun x hx => ?_, ih h.2⟩
        rcases G7 hx with rfl | hx
        · exact (M5 (a := m) (b := d.m) ha).elim id fun h2 => absurd h2 hlt
        · exact h.1 x hx
theorem Q4 {l : List Ab} {d : Ag} (a : AT) : B4 (setM l d) a = if d.a = a then d.count else B4 l a := by
  induction l with
  | nil => rw [setM, Fl]
  | cons m l ih =>
    rw [setM]
    split
    · rename_i ha
      rw [Fl, Fl]
      by_cases h : d.a = a
      · rw [if_pos (show (⟨m.node, m.life, d.count⟩ : Ab).d.a = a from ha.trans h), if_pos h]
      · rw [if_neg (show ¬ (⟨m.node, m.life, d.count⟩ : Ab).d.a = a from fun e => h (ha.symm.trans e)), if_neg h, if_neg (fun e => h (ha.symm.trans e))]
    · rename_i ha
      split
      · rw [Fl]
      · rw [Fl, ih, Fl]
        by_cases h : d.a = a
        · rw [if_pos h, if_neg (fun e => ha (e.trans h.symm)), if_pos h]
        · rw [if_neg h, if_neg h]
def B5 (c:List Ab×List Ag)(d:Ag):List Ab×List Ag:=
 if d.count<=B4 c.1 d.a then c else if B4 c.1 d.a+1<d.count then(c.1,c.2++[d])else(setM c.1 d,c.2)
theorem Oi {ms:List Ab}{cl:List Ag}{d:Ag}(h:Co ms cl)(hd:1<=d.count)(hlt:∀x∈cl,Cp x d):
  Co (B5 (ms,cl) d).1 (B5 (ms,cl) d).2∧(∀x,Cb (B5 (ms,cl) d).1 (B5 (ms,cl) d).2 x↔Cb ms cl x∨x=d)∧(∀x∈(B5 (ms,cl) d).2,x∈cl∨x=d):=by
 unfold B5
 simp only
 have hpos:=h.pos d.a
 split
 ·rename_i h1
  refine⟨h,fun x=>⟨.inl,?_⟩,fun x hx=> .inl hx⟩
  rintro(h2|rfl)
  ·exact h2
  ·exact .inl ⟨hd,h1⟩
 ·split
  ·rename_i h1 h2
   refine⟨⟨h.hm,h.hp,List.pairwise_append.2 ⟨h.hc,by simp,fun x hx y hy=> ?_⟩,fun x hx=> ?_⟩,fun x=> ?_,fun x hx=>by simpa using hx⟩
   ·simp only[Aah]at hy;subst hy;exact hlt x hx
   ·rcases List.mem_append.1 hx with hx|hx
    ·exact h.hg x hx
    ·simp only[Aah]at hx;subst hx;exact h2
   ·simp only[Cb,Aak,Aah]
    constructor
    ·rintro(h3|⟨h3,h4|h4⟩)
     ·exact .inl (.inl h3)
     ·exact .inl (.inr ⟨h3,h4⟩)
     ·exact .inr h4
    ·rintro((h3|⟨h3,h4⟩)|rfl)
     ·exact .inl h3
     ·exact .inr ⟨h3,.inl h4⟩
     ·exact .inr ⟨hd,.inr rfl⟩
  ·rename_i h1 h2
   have hc:d.count=B4 ms d.a+1:=by omega
   have hno:∀x∈cl,x.a≠d.a:=fun x hx e=>by
    have h3:=h.hg x hx
    have h4:=hlt x hx
    rw[e]at h3
    simp only[Ag.a,AT.mk.injEq]at e;unfold Cp at h4;omega
   refine⟨⟨FH h.hm,fun m hm=> ?_,h.hc,fun x hx=> ?_⟩,fun x=> ?_,fun x hx=> .inl hx⟩
   ·rcases G7 hm with rfl|h3
    ·exact hd
    ·exact h.hp m h3
   ·rw[Q4,if_neg (fun e=>hno x hx e.symm)];exact h.hg x hx
   ·simp only[Cb,Q4]
    by_cases ha:d.a=x.a
    ·rw[if_pos ha]
     rw[<-ha]
     constructor
     ·rintro(⟨h3,h4⟩|h3)
      ·by_cases h5:x.count=d.count
       ·right
        simp only[Ag.a,AT.mk.injEq]at ha
        exact Ag.eta ha.1.symm ha.2.symm h5
       ·exact .inl (.inl ⟨h3,by omega⟩)
      ·exact .inl (.inr h3)
     ·rintro((⟨h3,h4⟩|h3)|rfl)
      ·exact .inl ⟨h3,by omega⟩
      ·exact .inr h3
      ·exact .inl ⟨hd,Int.le_refl _⟩
    ·rw[if_neg ha]
     constructor
     ·exact .inl
     ·rintro(h3|rfl)
      ·exact h3
      ·exact absurd rfl ha
theorem Sv {l : List Ag} {c : List Ab × List Ag} (h : Co c.1 c.2) (hp : ∀ d ∈ l, 1 <= d.count) (hs : (c.2 ++ l).Pairwise Cp) :
    Co (l.foldl B5 c).1 (l.foldl B5 c).2 ∧ (∀ x, Cb (l.foldl B5 c).1 (l.foldl B5 c).2 x ↔ Cb c.1 c.2 x ∨ x ∈ l) := by
  induction l generalizing c with
  | nil => exact ⟨h, fun x => by simp⟩
  | cons d l ih =>
    have hs' := List.pairwise_append.1 hs
    obtain ⟨h1, h2, h3⟩ := Oi (d := d) h (hp d Zs) fun x hx => hs'.2.2 x hx d Zs
    have hd := List.pairwise_cons.1 hs'.2.1
    obtain ⟨h4, h5⟩ := ih (c := B5 c d) h1 (fun x hx => hp x (by simp [hx])) (List.pairwise_append.2 ⟨h1.hc, hd.2, fun x hx y hy => by
      rcases h3 x hx with h6 | rfl
      · exact hs'.2.2 x h6 y (by simp [hy])
      · exact hd.1 y hy⟩)
    refine ⟨h4, fun x => ?_⟩
    rw [AaI, h5, h2, Aai, or_assoc]
def compD :List Ag->List Ag
 |[]=>[]
 |[a]=>[a]
 |a::b::l=>if a=b then compD (b::l)else a::compD (b::l)
theorem Ho {l : List Ag} {d : Ag} : d ∈ compD l ↔ d ∈ l := by
  induction l with
  | nil => simp [compD]
  | cons a l ih =>
    cases l with
    | nil => simp [compD]
    | cons b l =>
      rw [compD]
      split
      · rename_i h; subst h; rw [ih]; simp
      · rw [Aai, ih]; simp
theorem M6 {l : List Ag} (h : l.Pairwise (fun a b => ¬ Cp b a)) : (compD l).Pairwise Cp := by
  induction l with
  | nil => simp [compD]
  | cons a l ih =>
    cases l with
    | nil => simp [compD]
    | cons b l =>
      rw [Aav] at h
      rw [compD]
      split
      · exact ih h.2
      · rename_i hab
        refine List.pairwise_cons.2 ⟨fun x hx => ?_, ih h.2⟩
        have hx' := Ho.1 hx
        have h1 := h.1 b Zs
        have hlt : Cp a b := Decidable.byContradiction fun h2 => hab (JU h2 h1)
        rcases List.mem_cons.1 hx' with rfl | h3
        · exact hlt
        · have h4 := (List.pairwise_cons.1 h.2).1 x h3
          unfold Cp at *; omega
def Cg (M:List Ab)(D:List Ag):List Ab×List Ag:=(compD (Bb D)).foldl B5 (CP (Bb (M.map Ab.d)),[])
theorem HX {M:List Ab}{D:List Ag}(hM:∀m∈M,1<=m.count)(hD:∀d∈D,1<=d.count):
  Co (Cg M D).1 (Cg M D).2∧∀d,Cb (Cg M D).1 (Cg M D).2 d↔Jq M D d:=by
 have hm:=GA.all (l:=Bb (M.map Ab.d)) (fun d hd=>by
  obtain⟨m,hm,rfl⟩:=List.mem_map.1 (Ex.1 hd);exact hM m hm) (KR _)
 have hc:Co (CP (Bb (M.map Ab.d))) []:=⟨hm.hm,hm.hp,List.Pairwise.nil,by simp⟩
 obtain⟨h1,h2⟩:=Sv (l:=compD (Bb D)) (c:=(CP (Bb (M.map Ab.d)),[])) hc (fun d hd=>hD d (Ex.1 (Ho.1 hd))) (by simpa using M6 (KR D))
 refine⟨h1,fun d=>(h2 d).trans ?_⟩
 rw[hc.raw,Ho,Ex]
 constructor
 ·rintro(⟨h3,h4|h4⟩|h3)
  ·obtain⟨x,hx,h5,h6⟩:=(hm.hr d h3).1 h4
   obtain⟨m,hm',rfl⟩:=List.mem_map.1 (Ex.1 hx)
   exact⟨h3,.inl ⟨m,hm',h5,h6⟩⟩
  ·cases h4
  ·exact⟨hD d h3,.inr h3⟩
 ·rintro⟨h3,⟨m,hm',h5,h6⟩|h4⟩
  ·exact .inl ⟨h3,.inl ((hm.hr d h3).2 ⟨m.d,Ex.2 (List.mem_map.2 ⟨m,hm',rfl⟩),h5,h6⟩)⟩
  ·exact .inr h4
theorem Uv {M:List Ab}{D:List Ag}{ms:List Ab}{cl:List Ag}(hM:∀m∈M,1<=m.count)(hD:∀d∈D,1<=d.count)
  (h:Co ms cl) (hr:∀d,Cb ms cl d↔Jq M D d):Cg M D=(ms,cl):=by
 obtain⟨h1,h2⟩:=HX hM hD
 obtain⟨e1,e2⟩:=Ss h1 h fun d=>(h2 d).trans (hr d).symm
 exact Prod.ext e1 e2
def Ip (m:Ab)(s:List Ab×Bool)(x:Ab):List Ab×Bool:=
 if x.d.a=m.d.a then(s.1++[⟨x.node,x.life,max x.count m.count⟩],true)else if s.2=false∧BH m x then(s.1++[m]++[x],true)else(s.1++[x],s.2)
def I5 (l:List Ab)(m:Ab):List Ab:=if (l.foldl (Ip m) ([],false)).2 then(l.foldl (Ip m) ([],false)).1 else(l.foldl (Ip m) ([],false)).1++[m]
def maxM :List Ab->Ab->List Ab
 |[],m=>[m]
 |x::t,m=>if x.d.a=m.d.a then⟨x.node,x.life,max x.count m.count⟩::t else if BH m x then m::x::t else x::maxM t m
theorem Q5 {l : List Ab} {m : Ab} (h : ∀ x ∈ l, x.d.a ≠ m.d.a) (out : List Ab) : l.foldl (Ip m) (out, true) = (out ++ l, true) := by
  induction l generalizing out with
  | nil => simp
  | cons x l ih =>
    rw [AaI, Ip, if_neg (h x Zs), if_neg Zs, ih fun y hy => h y (by simp [hy])]
    simp
theorem Uw {l : List Ab} {m : Ab} (h : l.Pairwise BH) (out : List Ab) :
    (if (l.foldl (Ip m) (out, false)).2 then (l.foldl (Ip m) (out, false)).1 else (l.foldl (Ip m) (out, false)).1 ++ [m]) = out ++ maxM l m := by
  induction l generalizing out with
  | nil => simp [maxM]
  | cons x l ih =>
    rw [Aav] at h
    rw [AaI, maxM]
    by_cases ha : x.d.a = m.d.a
    · have e : Ip m (out, false) x = (out ++ [⟨x.node, x.life, max x.count m.count⟩], true) := by rw [Ip, if_pos ha]
      rw [e, if_pos ha, Q5 fun y hy e => KO (h.1 y hy) (ha.trans e.symm)]
      simp
    · rw [if_neg ha]
      by_cases hl : BH m x
      · have e : Ip m (out, false) x = (out ++ [m] ++ [x], true) := by rw [Ip, if_neg ha, if_pos ⟨rfl, hl⟩]
        rw [e, if_pos hl, Q5 fun y hy e => KO (CZ hl (h.1 y hy)) e.symm]
        simp
      · have e : Ip m (out, false) x = (out ++ [x], false) := by rw [Ip, if_neg ha, if_neg (by simp [hl])]
        rw [e, if_neg hl, ih h.2]
        simp
theorem Q6 {l:List Ab}(h:l.Pairwise BH)(m:Ab):I5 l m=maxM l m:=by
 have:=Uw (m:=m) h []
 simpa[I5]using this
theorem Oj {l : List Ab} {m x : Ab} (h : x ∈ maxM l m) : x = m ∨ x ∈ l ∨ (x.d.a = m.d.a ∧ ∃ y ∈ l, y.d.a = m.d.a ∧ x.count = max y.count m.count) := by
  induction l with
  | nil => simp [maxM] at h; exact .inl h
  | cons y l ih =>
    rw [maxM] at h
    split at h
    · rename_i ha
      rcases List.mem_cons.1 h with rfl | h
      · exact .inr (.inr ⟨ha, y, by simp, ha, rfl⟩)
      · exact .inr (.inl (by simp [h]))
    · split at h
      · rcases List.mem_cons.1 h with rfl | h
        · exact .inl rfl
        · exact .inr (.inl h)
      · rcases List.mem_cons.1 h with rfl | h
        · exact .inr (.inl Zs)
        · rcases ih h with h | h | ⟨h, z, hz, h2⟩
          · exact .inl h
          · exact .inr (.inl (by simp [h]))
          · exact .inr (.inr ⟨h, z, by simp [hz], h2⟩)
theorem Js {l : List Ab} {m : Ab} (h : l.Pairwise BH) : (maxM l m).Pairwise BH := by
  induction l with
  | nil => simp [maxM]
  | cons x l ih =>
    rw [Aav] at h
    rw [maxM]
    split
    · exact List.pairwise_cons.2 ⟨fun y hy => (Me (a := x) rfl).1 (h.1 y hy), h.2⟩
    · rename_i ha
      split
      · rename_i hlt
        refine List.pairwise_cons.2 ⟨fun y hy => ?_, List.pairwise_cons.2 h⟩
        rcases List.mem_cons.1 hy with rfl | hy
        · exact hlt
        · exact CZ hlt (h.1 y hy)
      · rename_i hlt
        have hxm : BH x m := (M5 ha).elim id fun h2 => absurd h2 hlt
        refine List.pairwise_cons.2 ⟨fun y hy => ?_, ih h.2⟩
        rcases Oj hy with rfl | hy | ⟨hy, -⟩
        · exact hxm
        · exact h.1 y hy
        · exact (KP (c := x) hy).2 hxm
theorem Ok {l:List Ab}{m:Ab}(h:∀x∈l,1<=x.count)(hm:1<=m.count):∀x∈maxM l m,1<=x.count:=by
 intro x hx
 rcases Oj hx with rfl|hx|⟨-,y,hy,-,e⟩
 ·exact hm
 ·exact h x hx
 ·have:=h y hy;omega
theorem Ol (l : List Ab) (m : Ab) : (maxM l m).length <= l.length + 1 := by
  induction l with
  | nil => simp [maxM]
  | cons x l ih =>
    rw [maxM]
    split
    · simp
    · split <;> simp <;> omega
theorem Om {l : List Ab} {m : Ab} (a : AT) (c : Int) : (∃ x ∈ maxM l m, x.d.a = a ∧ c <= x.count) ↔ (∃ x ∈ l, x.d.a = a ∧ c <= x.count) ∨ (m.d.a = a ∧ c <= m.count) := by
  induction l with
  | nil => simp [maxM]
  | cons x l ih =>
    rw [maxM]
    split
    · rename_i ha
      constructor
      · rintro ⟨y, hy, h1, h2⟩
        rcases List.mem_cons.1 hy with rfl | hy
        · simp only at h2
          by_cases h3 : c <= x.count
          · exact .inl ⟨x, by simp, h1, h3⟩
          · exact .inr ⟨ha ▸ h1, by omega⟩
        · exact .inl ⟨y, by simp [hy], h1, h2⟩
      · rintro (⟨y, hy, h1, h2⟩ | ⟨h1, h2⟩)
        · rcases List.mem_cons.1 hy with rfl | hy
          · exact ⟨_, AaU .., h1, by simp only; omega⟩
          · exact ⟨y, by simp [hy], h1, h2⟩
        · exact ⟨_, AaU .., ha.trans h1, by simp only; omega⟩
    · split
      · constructor
        · rintro ⟨y, hy, h1, h2⟩
          rcases List.mem_cons.1 hy with rfl | hy
          · exact .inr ⟨h1, h2⟩
          · exact .inl ⟨y, hy, h1, h2⟩
        · rintro (⟨y, hy, h1⟩ | h1)
          · exact ⟨y, AaB _ hy, h1⟩
          · exact ⟨m, by simp, h1⟩
      · constructor
        · rintro ⟨y, hy, h1, h2⟩
          rcases List.mem_cons.1 hy with rfl | hy
          · exact .inl ⟨_, by simp, h1, h2⟩
          · rcases ih.1 ⟨y, hy, h1, h2⟩ with ⟨z, hz, h3⟩ | h3
            · exact .inl ⟨z, by simp [hz], h3⟩
            · exact .inr h3
        · rintro (⟨y, hy, h1⟩ | h1)
          · rcases List.mem_cons.1 hy with rfl | hy
            · exact ⟨_, by simp, h1⟩
            · obtain ⟨z, hz, h3⟩ := ih.2 (.inl ⟨y, hy, h1⟩)
              exact ⟨z, by simp [hz], h3⟩
          · obtain ⟨z, hz, h3⟩ := ih.2 (.inr h1)
            exact ⟨z, by simp [hz], h3⟩
structure G8 (l M:List Ab):Prop where
 hm:l.Pairwise BH
 hp:∀m∈l,1<=m.count
 hl:l.length<=M.length
 hr:∀a c,(∃x∈l,x.d.a=a∧c<=x.count)↔∃x∈M,x.d.a=a∧c<=x.count
theorem G8.nil :G8 [] []:=⟨List.Pairwise.nil,by simp,by simp,by simp⟩
theorem G8.step {l M:List Ab}{m:Ab}(h:G8 l M)(hm:1<=m.count):G8 (I5 l m) (M++[m]):=by
 rw[Q6 h.hm]
 refine⟨Js h.hm,Ok h.hp hm,by have:=Ol l m;have:=h.hl;simp;omega,fun a c=> ?_⟩
 rw[Om,h.hr]
 simp only[Aak,Aah,or_and_right,exists_or,exists_eq_left]
def Iq (d:Ag)(s:List Ag×Bool)(x:Ag):List Ag×Bool:=
 if (s.2=false∧x≠d)∧Cp d x then(s.1++[d]++[x],true)else(s.1++[x],s.2||decide (x=d))
def JF (l:List Ag)(d:Ag):List Ag:=if (l.foldl (Iq d) ([],false)).2 then(l.foldl (Iq d) ([],false)).1 else(l.foldl (Iq d) ([],false)).1++[d]
def insD :List Ag->Ag->List Ag
 |[],d=>[d]
 |x::t,d=>if x=d then x::t else if Cp d x then d::x::t else x::insD t d
theorem Q7 (l:List Ag)(d:Ag)(out:List Ag):l.foldl (Iq d) (out,true)=(out++l,true):=by
 induction l generalizing out with
 |nil=>simp
 |cons x l ih=>rw[AaI,Iq,if_neg Zs,Bool.true_or,ih];simp
theorem Ux (l : List Ag) (d : Ag) (out : List Ag) :
    (if (l.foldl (Iq d) (out, false)).2 then (l.foldl (Iq d) (out, false)).1 else (l.foldl (Iq d) (out, false)).1 ++ [d]) = out ++ insD l d := by
  induction l generalizing out with
  | nil => simp [insD]
  | cons x l ih =>
    rw [AaI, insD]
    by_cases he : x = d
    · have e : Iq d (out, false) x = (out ++ [x], true) := by rw [Iq, if_neg (by simp [he]), decide_eq_true he, Bool.or_true]
      rw [e, if_pos he, Q7]; simp
    · rw [if_neg he]
      by_cases hl : Cp d x
      · have e : Iq d (out, false) x = (out ++ [d] ++ [x], true) := by rw [Iq, if_pos ⟨⟨rfl, he⟩, hl⟩]
        rw [e, if_pos hl, Q7]; simp
      · have e : Iq d (out, false) x = (out ++ [x], false) := by rw [Iq, if_neg (by simp [hl]), decide_eq_false he, Bool.or_false]
        rw [e, if_neg hl, ih]; simp
theorem Wz (l:List Ag)(d:Ag):JF l d=insD l d:=by
 have:=Ux l d []
 simpa[JF]using this
theorem On {l : List Ag} {d x : Ag} : x ∈ insD l d ↔ x ∈ l ∨ x = d := by
  induction l with
  | nil => simp [insD]
  | cons y l ih =>
    rw [insD]
    split
    · rename_i h; subst h; simp only [Aai]; constructor
      · exact .inl
      · rintro (h | rfl)
        · exact h
        · exact .inl rfl
    · split
      · simp only [Aai]; constructor
        · rintro (h | h)
          · exact .inr h
          · exact .inl h
        · rintro (h | h)
          · exact .inr h
          · exact .inl h
      · simp only [Aai, ih, or_assoc]
theorem Oo {l : List Ag} {d : Ag} (h : l.Pairwise Cp) : (insD l d).Pairwise Cp := by
  induction l with
  | nil => simp [insD]
  | cons x l ih =>
    have h0 := h
    rw [Aav] at h
    rw [insD]
    split
    · exact h0
    · rename_i he
      split
      · rename_i hlt
        refine List.pairwise_cons.2 ⟨fun y hy => ?_, h0⟩
        rcases List.mem_cons.1 hy with rfl | hy
        · exact hlt
        · exact E2 hlt (h.1 y hy)
      · rename_i hlt
        refine List.pairwise_cons.2 ⟨fun y hy => ?_, ih h.2⟩
        rcases On.1 hy with hy | rfl
        · exact h.1 y hy
        · exact Decidable.byContradiction fun h2 => he (JU h2 hlt)
theorem Uy (l : List Ag) (d : Ag) : (insD l d).length <= l.length + 1 := by
  induction l with
  | nil => simp [insD]
  | cons x l ih =>
    rw [insD]
    split
    · simp
    · split <;> simp <;> omega
structure G9 (l D:List Ag):Prop where
 hs:l.Pairwise Cp
 hl:l.length<=D.length
 hr:∀x,x∈l↔x∈D
theorem G9.nil :G9 [] []:=⟨List.Pairwise.nil,by simp,by simp⟩
theorem G9.step {l D:List Ag}(h:G9 l D)(d:Ag):G9 (JF l d) (D++[d]):=by
 rw[Wz]
 exact⟨Oo h.hs,by have:=Uy l d;have:=h.hl;simp;omega,fun x=>by rw[On,h.hr];simp⟩
structure SS where
 ms:List Ab
 left:List Ag
 again:Bool
def Q8 (s:SS)(d:Ag):SS:=
 if d.count<=B4 s.ms d.a then s else if d.count=B4 s.ms d.a+1 then⟨I5 s.ms d.m,s.left,true⟩else⟨s.ms,s.left++[d],s.again⟩
structure KT (M:List Ab)(D:List Ag)(ms:List Ab)(ds:List Ag):Prop where
 hm:ms.Pairwise BH
 hp:∀m∈ms,1<=m.count
 hs:ds.Pairwise Cp
 hd:∀d∈ds,1<=d.count
 hl:ms.length+ds.length<=M.length+D.length
 hr:∀d,Jq ms ds d↔Jq M D d
structure Ha (ms0:List Ab)(ds:List Ag)(s:SS)(i:Nat):Prop where
 hm:s.ms.Pairwise BH
 hp:∀m∈s.ms,1<=m.count
 hsub:s.left.Sublist (ds.take i)
 hlen:s.ms.length+s.left.length<=ms0.length+(ds.take i).length
 hr:∀d,Jq s.ms s.left d↔Jq ms0 (ds.take i) d
 hag:s.again=true->s.left.length<(ds.take i).length
 hno:s.again=false->∀d∈s.left,B4 s.ms d.a+1<d.count
theorem Ha.zero {ms:List Ab}(ds:List Ag)(hm:ms.Pairwise BH)(hp:∀m∈ms,1<=m.count):Ha ms ds ⟨ms,[],false⟩ 0:=
 ⟨hm,hp,by simp,by simp,by simp,by simp,by simp⟩
theorem Q9 {ms:List Ab}(h:ms.Pairwise BH){a:AT}{c:Int}(hc:1<=c):(∃m∈ms,m.d.a=a∧c<=m.count)↔c<=B4 ms a:=by
 constructor
 ·rintro⟨m,hm,rfl,h2⟩;rw[Fm h hm];exact h2
 ·intro h2;obtain⟨m,hm,h3,h4⟩:=FG (ms:=ms) (a:=a) Zo;exact⟨m,hm,h3,by omega⟩
theorem Ha.step {ms0:List Ab}{ds:List Ag}{s:SS}{i:Nat}{d:Ag}(h:Ha ms0 ds s i)(hd:ds[i]? =some d)(hc:1<=d.count):Ha ms0 ds (Q8 s d) (i+1):=by
 obtain⟨hi,rfl⟩:=List.getElem?_eq_some_iff.1 hd
 have ht:=AaL hi
 have hl:(ds.take (i+1)).length=(ds.take i).length+1:=by rw[ht,Aab,AaS]
 have hraw:∀x,Jq ms0 (ds.take (i+1)) x↔Jq ms0 (ds.take i) x∨x=ds[i]:=fun x=>by
  rw[ht];simp only[Jq,Aak,Aah]
  constructor
  ·rintro⟨h1,h2|h2|h2⟩
   ·exact .inl ⟨h1,.inl h2⟩
   ·exact .inl ⟨h1,.inr h2⟩
   ·exact .inr h2
  ·rintro(⟨h1,h2|h2⟩|rfl)
   ·exact⟨h1,.inl h2⟩
   ·exact⟨h1,.inr (.inl h2)⟩
   ·exact⟨hc,.inr (.inr rfl)⟩
 unfold Q8
 split
 ·rename_i h1
  refine⟨h.hm,h.hp,ht▸h.hsub.trans (List.sublist_append_left ..),by have:=h.hlen;omega,fun x=> ?_,fun e=>by have:=h.hag e;omega,h.hno⟩
  rw[hraw,<-h.hr]
  constructor
  ·exact .inl
  ·rintro(h2|rfl)
   ·exact h2
   ·exact⟨hc,.inl ((Q9 h.hm hc).2 h1)⟩
 ·split
  ·rename_i h1 h2
   rw[Q6 h.hm]
   refine⟨Js h.hm,Ok h.hp hc,ht▸h.hsub.trans (List.sublist_append_left ..),by have:=Ol s.ms ds[i].m;have:=h.hlen;simp only;omega,fun x=> ?_,fun _=>by have:=h.hsub.length_le;simp only;omega,fun e=>by cases e⟩
   rw[hraw,<-h.hr]
   simp only[Jq,Om]
   constructor
   ·rintro⟨h3,(h4|⟨h4,h5⟩)|h4⟩
    ·exact .inl ⟨h3,.inl h4⟩
    ·replace h4:ds[i].a=x.a:=h4
     replace h5:x.count<=ds[i].count:=h5
     by_cases h6:x.count=ds[i].count
     ·right;simp only[Ag.a,AT.mk.injEq]at h4;exact Ag.eta h4.1.symm h4.2.symm h6
     ·exact .inl ⟨h3,.inl ((Q9 h.hm h3).2 (by rw[<-h4];omega))⟩
    ·exact .inl ⟨h3,.inr h4⟩
   ·rintro(⟨h3,h4|h4⟩|rfl)
    ·exact⟨h3,.inl (.inl h4)⟩
    ·exact⟨h3,.inr h4⟩
    ·exact⟨hc,.inl (.inr ⟨rfl,Int.le_refl _⟩)⟩
  ·rename_i h1 h2
   refine⟨h.hm,h.hp,ht▸h.hsub.append (List.Sublist.refl _),by have:=h.hlen;rw[hl,Aab,AaS];simp only;omega,fun x=> ?_,fun e=>by have:=h.hag e;rw[hl,Aab,AaS];omega,fun e x hx=> ?_⟩
   ·rw[hraw,<-h.hr]
    simp only[Jq,Aak,Aah]
    constructor
    ·rintro⟨h3,h4|h4|h4⟩
     ·exact .inl ⟨h3,.inl h4⟩
     ·exact .inl ⟨h3,.inr h4⟩
     ·exact .inr h4
    ·rintro(⟨h3,h4|h4⟩|rfl)
     ·exact⟨h3,.inl h4⟩
     ·exact⟨h3,.inr (.inl h4)⟩
     ·exact⟨hc,.inr (.inr rfl)⟩
   ·rcases List.mem_append.1 hx with hx|hx
    ·exact h.hno e x hx
    ·simp only[Aah]at hx;subst hx;simp only;omega
theorem KT.round {M ms:List Ab}{D ds:List Ag}{s:SS}(h:KT M D ms ds)(hr:Ha ms ds s ds.length):KT M D s.ms s.left:=by
 have hs:=hr.hsub;rw[Aas]at hs
 refine⟨hr.hm,hr.hp,h.hs.sublist hs,fun d hd=>h.hd d (hs.subset hd),by have h1:=hr.hlen;have:=h.hl;rw[Aas]at h1;omega,fun d=> ?_⟩
 rw[hr.hr,Aas];exact h.hr d
theorem KT.done {M ms:List Ab}{D ds:List Ag}(h:KT M D ms ds)(hM:∀m∈M,1<=m.count)(hD:∀d∈D,1<=d.count)(hn:∀d∈ds,B4 ms d.a+1<d.count):Cg M D=(ms,ds):=
 have hc:Co ms ds:=⟨h.hm,h.hp,h.hs,hn⟩
 Uv hM hD hc (hc.of_raw h.hr)
def WA (ms:List Ab)(cl:List Ag)(ms':List Ab)(cl':List Ag):Prop:=(∀m∈ms,m.count<=B4 ms' m.d.a)∧∀d∈cl,Cb ms' cl' d
instance (ms :List Ab)(cl:List Ag)(ms':List Ab)(cl':List Ag):Decidable (WA ms cl ms' cl'):=by unfold WA;infer_instance
theorem Oq {ms ms':List Ab}{cl cl':List Ag}(h:Co ms cl)(h':Co ms' cl'):WA ms cl ms' cl'↔∀d,Cb ms cl d->Cb ms' cl' d:=by
 constructor
 ·rintro⟨h1,h2⟩ d (⟨h3,h4⟩|⟨h3,h4⟩)
  ·obtain⟨m,hm,ha,hc⟩:=FG (ms:=ms) (a:=d.a) Zo
   have:=h1 m hm
   rw[ha]at this
   exact .inl ⟨h3,by omega⟩
  ·exact h2 d h4
 ·intro he
  refine⟨fun m hm=> ?_,fun d hd=>he d (.inr ⟨?_,hd⟩)⟩
  ·have:=KQ h h' he m.d.a
   rw[Fm h.hm hm]at this;exact this
  ·have:=h.hg d hd;have:=h.pos d.a;omega
theorem Co.next {ms:List Ab}{cl:List Ag}(h:Co ms cl){d:Ag}(hd:d.count=B4 ms d.a+1):¬d∈cl:=fun hm=>by have:=h.hg d hm;omega
theorem Uz {ms:List Ab}(h:∀i,XL ms i)(a:AT):0<=B4 ms a∧B4 ms a<=1099511627776:=by
 by_cases hz:B4 ms a=0
 ·omega
 ·obtain⟨m,hm,-,e⟩:=FG hz
  obtain⟨j,hj,rfl⟩:=AaG hm
  have:=(h j _ (List.getElem?_eq_getElem hj)).1
  simp only[AC,Ab.d]at this
  omega
theorem M7 {ms:List Ab}{i:Nat}(h:∀j,j<i->XL ms j)(hi:ms.length<=i):∀j,XL ms j:=fun j m hm=>by
 obtain⟨hj,-⟩:=List.getElem?_eq_some_iff.1 hm
 exact h j Zo m hm
theorem WB {ms:List Ab}{cl:List Ag}{i:Nat}(h:∀j,j<i->Sp ms cl j)(hi:cl.length<=i):∀j,Sp ms cl j:=fun j d hd=>by
 obtain⟨hj,-⟩:=List.getElem?_eq_some_iff.1 hd
 exact h j Zo d hd
theorem D3 {p:Nat->Prop}{i:Nat}(h:∀j,j<i->p j)(hi:p i):∀j,j<i+1->p j:=fun j hj=>by
 by_cases e:j=i
 ·subst e;exact hi
 ·exact h j Zo
theorem Ir {i:Nat}(h:0<i):(((i:Nat):Int)-1).toNat=i-1:=by omega
theorem gI {ms:List Ab}{i:Nat}{m x:Ab}(hm:ms[i]? =some m)(hi:0<i)(hx:ms[i-1]? =some x)(h:¬BH x m):¬XL ms i:=fun ho=>h ((ho m hm).2 hi x hx)
theorem ib {ms:List Ab}{i:Nat}{m:Ab}(hm:ms[i]? =some m)(h1:AC m.d)(h2:0<i->∀x,ms[i-1]? =some x->BH x m):XL ms i:=fun m' hm'=>by
 rw[hm]at hm';cases hm';exact⟨h1,h2⟩
theorem ic {ms:List Ab}{cl:List Ag}{i:Nat}{d:Ag}(hd:cl[i]? =some d)(h1:AC d)(h2:0<i->∀x,cl[i-1]? =some x->Cp x d)(h3:B4 ms d.a+1<d.count):Sp ms cl i:=fun d' hd'=>by
 rw[hd]at hd';cases hd';exact⟨h1,h2,h3⟩
theorem UA {α:Type}{xs:List α}{i:Nat}{x y:α}{p:α->Prop}(hx:xs[i]? =some x)(h:p x)(hy:xs[i]? =some y):p y:=by rw[hx]at hy;cases hy;exact h
theorem Ra {x m:Ab}(h:0<=Bz ⟨x.node,x.life,0⟩ ⟨m.node,m.life,0⟩):¬BH x m:=Uu.1 h
theorem Ot {x m:Ab}(h:Bz ⟨x.node,x.life,0⟩ ⟨m.node,m.life,0⟩<0):BH x m:=Decidable.byContradiction fun h2=>absurd (Uu.2 h2) (Int.not_le.2 h)
attribute [local irreducible] AC DQ Cp BH Bz B4 Cb X
theorem UB (am:Option Addr)(ms:List Ab)(cm:Nat)(ac:Option Addr)(cl:List Ag)(cc:Nat)(w:World)(hs:Av w am ms)(ht:Av w ac cl)(hl:ms.length<=4294967295)(hl2:cl.length<=4294967295):
  Calls prog 79 #[.agg #[.slice am ms.length cm,.slice ac cl.length cc]] w (AN (fun v w'=>v= .bool (BK ms cl)∧Ap w w')):=by
 refine Ac (n:=88) func79 rfl rfl rfl ?_;refine jG ?_;refine jR<|jB ?_;intro a3 aI au a0 aD;have:w.heap.size<=a3:=au;clear au;have K0:=(aD:Ap w _);refine jG ?_;refine jV (D8 rfl rfl rfl) ?_;refine jG ?_;refine jF ?_ ?_
 ·intro hc17
  refine jG ?_;refine jJ func79 ?_;exact⟨_,rfl,by rw[Hn (fun h=>by have:=h.1;have:=h.2.1;omega)],K0⟩
 ·intro hc17
  have hl64:ms.length<=64:=by omega
  have hl65:cl.length<=64:=by omega
  refine jG ?_;refine Ai.loop (ι:=Nat) (fun i ρ' w'=>Holds ρ' [(1,jp a3),(19,.slice am ms.length cm),(20,.int .i64 ((ms.length:Nat):Int)),(21,.int .i64 ((i:Nat):Int))]∧Ap w w'∧(AB w' a3 [.slice am ms.length cm,.slice ac cl.length cc] 31)∧(i<=ms.length)∧(∀j,j<i->XL ms j)) (fun i=>ms.length-i) 0 ?_ ?_
  ·refine⟨⟨rfl,rfl,rfl,rfl,trivial⟩,K0,a0,?_,?_⟩
   ·omega
   ·exact fun j hj=>absurd hj (Abg j)
  clear a0;clear K0;rintro i aJ aK ⟨av,K0,a0,hi,hk⟩ ih1;obtain⟨ρ₀,rfl⟩:=av.ex;clear av;refine jG ?_;refine jF ?_ ?_
  ·intro hc22
   refine FW ?_;obtain⟨aL,aM,m,hm,aE,a5⟩:=hs.eo i;have hc_12_lt:=a5.lt;refine jV (AS underlying28 ty46 rfl rfl aE Zl) ?_;replace a5:=a5.ext K0;refine jG ?_;refine jR<|jA ?_;intro aN aO a6 a2 aw;have aP:=Ak a0.lt a6;have aQ:=Ak a5.lt a6;have:=Aaa K0.size a6;clear a6;refine jG ?_;refine jR<|jS a2 ?_;intro aR a2 ax;refine jG ?_;refine jR<|jC (HV m _) ?_;rintro _ aS ⟨rfl,ab⟩;refine jR<|jC (Md (Ab.d m) _) ?_;rintro _ aT ⟨rfl,ad⟩;refine jG ?_;replace a0:=(((a0.ext aw).kp ax).ext ab).ext ad;replace K0:=(((K0.ext aw).n1 ax).ext ab).ext ad;replace a2:=(a2.ext ab).ext ad;refine jF ?_ ?_
   ·intro hc29
    refine jG ?_;refine jJ func79 ?_;exact⟨_,rfl,by rw[Hn (fun h=>hc29 (h.2.2.1 i m hm).1)],K0⟩
   ·intro hc29
    refine jG ?_;refine jF ?_ ?_
    ·intro hc31
     refine jG ?_;refine jV (BT rfl rfl Zo Zo) ?_;obtain⟨aU,aV,x,hx,aF,a7⟩:=hs.el (i:=(((i:Nat):Int)-1).toNat) Zl;have hc_31_lt:=a7.lt;refine jV (HK underlying28 ty46 rfl rfl aF Zo Zl) ?_;replace a7:=a7.ext K0;refine jG ?_;refine jR<|jA ?_;intro aW aX a4 ay ae;have aY:=Ak a0.lt a4;have aZ:=Ak a2.lt a4;have b0:=Ak a7.lt a4;have:=Aaa K0.size a4;clear a4;refine jR<|jS ay ?_;intro b1 ay af;have hxm:=(hk _ Zo x hx).1;refine jG ?_;refine jV (AI (cells:=#[.int .i64 x.node,.int .i64 x.life,.int .i64 0]) Zk) ?_;replace a2:=(a2.ext ae).kp af;refine jG ?_;refine jV (AI (cells:=#[.int .i64 m.node,.int .i64 m.life,.int .i64 0]) Zk) ?_;refine jR<|jC (PH (⟨x.node,x.life,0⟩:Ag) (⟨m.node,m.life,0⟩:Ag) _ (AC.z hxm) (AC.z hc29)) ?_;rintro _ b2 ⟨rfl,az⟩;refine jG ?_;replace a0:=((a0.ext ae).kp af).ext az;replace K0:=((K0.ext ae).n1 af).ext az;refine jF ?_ ?_
     ·intro hc49
      refine jG ?_;refine jJ func79 ?_;exact⟨_,rfl,by rw[Hn (fun h=>gI hm Zo (by rw[<-Ir Zo];exact hx) (Ra hc49) (h.2.2.1 i))],K0⟩
     ·intro hc49
      refine jG ?_;refine jV (Az (c:=((i+1:Nat):Int)) (Au rfl rfl Zo Zo) rfl) ?_;refine jG ?_;refine ih1 (i+1) _ _ ?_ Zo;refine⟨⟨rfl,rfl,rfl,rfl,trivial⟩,K0,a0,?_,?_⟩
      ·omega
      ·exact D3 hk (ib hm hc29 (fun h_ _=>UA (p:=fun y=>BH y m) (by rw[<-Ir Zo];exact hx) (Ot hc49)))
    ·intro hc31
     refine jG ?_;refine jV (Az (c:=((i+1:Nat):Int)) (Au rfl rfl Zo Zo) rfl) ?_;refine jG ?_;refine ih1 (i+1) _ _ ?_ Zo;refine⟨⟨rfl,rfl,rfl,rfl,trivial⟩,K0,a0,?_,?_⟩
     ·omega
     ·exact D3 hk (ib hm hc29 (fun h_=>absurd h_ Zo))
  ·intro hc22
   refine jG ?_;refine Ai.loop (ι:=Nat) (fun i ρ' w'=>Holds ρ' [(1,jp a3),(52,.slice ac cl.length cc),(53,.int .i64 ((cl.length:Nat):Int)),(54,.int .i64 ((i:Nat):Int))]∧Ap w w'∧(AB w' a3 [.slice am ms.length cm,.slice ac cl.length cc] 31)∧(i<=cl.length)∧(∀j,j<i->Sp ms cl j)) (fun i=>cl.length-i) 0 ?_ ?_
   ·refine⟨⟨rfl,rfl,rfl,rfl,trivial⟩,K0,a0,?_,?_⟩
    ·omega
    ·exact fun j hj=>absurd hj (Abg j)
   clear a0;clear K0;rintro i b3 b4 ⟨aA,K0,a0,hi,hk2⟩ ih2;obtain⟨ρ₀,rfl⟩:=aA.ex;clear aA;refine jG ?_;refine jF ?_ ?_
   ·intro hc55
    refine FW ?_;obtain⟨b5,b6,d,hd,aG,a8⟩:=ht.eo i;have hc_52_lt:=a8.lt;refine jV (AS underlying29 ty73 rfl rfl aG Zl) ?_;replace a8:=a8.ext K0;refine jG ?_;refine jR<|jA ?_;intro b7 b8 a9 a1 aB;have b9:=Ak a0.lt a9;have ba:=Ak a8.lt a9;have:=Aaa K0.size a9;clear a9;refine jG ?_;refine jR<|jS a1 ?_;intro bb a1 aC;refine El ?_;replace a0:=(a0.ext aB).kp aC;replace K0:=(K0.ext aB).n1 aC;by_cases hA:AC d
    ·by_cases hB:0<i
     ·have hmk:=Uz (M7 hk Zo) d.a
      refine Ai.drawS [] [1000,2001,2,3,4,5,6,7,1008,9,10,11,1013,2012,2014,15,16,17,18,19,1020,1021,1022,2023,2024,25,26,27] ?_;intro bc ag;replace a0:=a0.ext ag;replace a1:=a1.ext ag;refine jM (jb a0 (jb a1 Jn)) ?_;refine jG ?_;refine jU rfl<|jC (Md d _) ?_;rintro _ be ⟨rfl,ah⟩;replace a0:=a0.ext ah;replace a1:=a1.ext ah;refine El ?_;refine jP ?_ (hx:=by exact fun _=>(D9 (Bn rfl) (by simp[hA])));refine Em ?_;refine jQ ?_ (hx:=by exact fun _ hg=>(DN (GR rfl rfl) Zi));refine jG ?_;refine jQ ?_ (hx:=by exact fun _ hg=>(BT rfl rfl Zo Zo));obtain⟨bg,bh,x,hx,aH,aa⟩:=ht.el (i:=(((i:Nat):Int)-1).toNat) Zl;have hc_71_lt:=aa.lt;replace K0:=(K0.ext ag).ext ah;refine jQ ?_ (hx:=by exact fun _ hg=>(HK underlying29 ty73 rfl rfl aH Zo Zl));refine jG ?_;replace aa:=aa.ext K0;refine jX rfl<|jO (BQ (v:= .agg #[.int .i64 x.node,.int .i64 x.life,.int .i64 x.count]) (y:=x) ty73 rfl aa rfl) ?_;refine jG ?_;refine jX rfl<|jC (PH x d _ (hk2 _ Zo x hx).1.sm hA.sm) ?_;rintro _ bi ⟨rfl,ai⟩;replace a0:=a0.ext ai;replace a1:=a1.ext ai;refine jG ?_;refine jQ ?_ (hx:=by exact fun _ hg=>(BU rfl rfl rfl));refine jP ?_ (hx:=by exact fun _=>(E6 rfl rfl rfl));refine jG ?_;refine jZ (fun hg=>(FR d _)) ?_;intro bj aj;replace a0:=a0.ext aj;replace a1:=a1.ext aj;refine jG ?_;replace K0:=(K0.ext ai).ext aj;refine jZ (fun hg=>(Oh am ms cm ac cl cc (Ag.a d) _ (hs.ext K0) (ht.ext K0) Zo Zo)) ?_;intro bk ak;replace a0:=a0.ext ak;replace a1:=a1.ext ak;refine jG ?_;refine jQ ?_ (hx:=by exact fun _ hg=>(Au (BR hg) rfl Zo Zo));refine jG ?_;refine jP ?_ (hx:=by exact fun _=>(D8 rfl rfl rfl));refine jG ?_;replace K0:=K0.ext ak;refine jF ?_ ?_
      ·intro hc86
       refine jG ?_;refine jJ func79 ?_;exact⟨_,rfl,by rw[Hn (fun h=>hc86.elim (fun h4=>absurd ((h.2.2.2 i d hd).2.1 Zo x (by rw[<-Ir Zo];exact hx)) (Q1.1 h4)) (fun h4=>absurd h4 (Int.not_le.2 (h.2.2.2 i d hd).2.2)))],K0⟩
      ·intro hc86
       refine jG ?_;refine jV (Az (c:=((i+1:Nat):Int)) (Au rfl rfl Zo Zo) rfl) ?_;refine jG ?_;refine ih2 (i+1) _ _ ?_ Zo;refine⟨⟨rfl,rfl,rfl,rfl,trivial⟩,K0,a0,?_,?_⟩
       ·omega
       ·exact D3 hk2 (ic hd hA (fun h_ _=>UA (p:=fun y=>Cp y d) (by rw[<-Ir Zo];exact hx) (EB.1 hc86.1)) hc86.2)
     ·have hmk:=Uz (M7 hk Zo) d.a
      refine Ai.drawS [] [1000,2001,2,3,4,5,6,7,8,9,10,11,12,13,2014,15,16,17,18,19,1020,1021,1022,2023,2024,25,26,27] ?_;intro bl al;replace a0:=a0.ext al;replace a1:=a1.ext al;refine jM (jb a0 (jb a1 Jn)) ?_;refine jG ?_;refine jU rfl<|jC (Md d _) ?_;rintro _ bm ⟨rfl,an⟩;replace a0:=a0.ext an;replace a1:=a1.ext an;refine El ?_;refine jP ?_ (hx:=by exact fun _=>(D9 (Bn rfl) (by simp[hA])));refine Em ?_;refine jQ ?_ (hx:=by exact fun _ hg=>(D9 (GR rfl rfl) Zi));refine jG ?_;refine jY ?_;refine jG ?_;refine jQ ?_ (hx:=by exact fun _ hg=>(Be (b:=false) (e:=false) rfl rfl rfl));refine jP ?_ (hx:=by exact fun _=>(E6 rfl rfl rfl));refine jG ?_;refine jX rfl<|jC (FR d _) ?_;rintro _ bn ⟨rfl,ao⟩;replace a0:=a0.ext ao;replace a1:=a1.ext ao;refine jG ?_;replace K0:=((K0.ext al).ext an).ext ao;refine jX rfl<|jC (Oh am ms cm ac cl cc (Ag.a d) _ (hs.ext K0) (ht.ext K0) Zo Zo) ?_;rintro _ bo ⟨rfl,ap⟩;replace a0:=a0.ext ap;replace a1:=a1.ext ap;refine jG ?_;refine jQ ?_ (hx:=by exact fun _ hg=>(Au rfl rfl Zo Zo));refine jG ?_;refine jP ?_ (hx:=by exact fun _=>(E6 rfl rfl rfl));refine jG ?_;replace K0:=K0.ext ap;refine jF ?_ ?_
      ·intro hc86
       refine jG ?_;refine jJ func79 ?_;exact⟨_,rfl,by rw[Hn (fun h=>absurd hc86 (Int.not_le.2 (h.2.2.2 i d hd).2.2))],K0⟩
      ·intro hc86
       refine jG ?_;refine jV (Az (c:=((i+1:Nat):Int)) (Au rfl rfl Zo Zo) rfl) ?_;refine jG ?_;refine ih2 (i+1) _ _ ?_ Zo;refine⟨⟨rfl,rfl,rfl,rfl,trivial⟩,K0,a0,?_,?_⟩
       ·omega
       ·exact D3 hk2 (ic hd hA (fun h_=>absurd h_ Zo) hc86)
    ·skip
     refine Ai.drawS [] [1000,2001,2,3,4,5,6,7,8,9,10,11,12,13,2014,15,16,17,18,19,20,21,22,2023,2024,25,26,27] ?_;intro bp aq;replace a0:=a0.ext aq;replace a1:=a1.ext aq;refine jM (jb a0 (jb a1 Jn)) ?_;refine jG ?_;refine jU rfl<|jC (Md d _) ?_;rintro _ bq ⟨rfl,ar⟩;replace a0:=a0.ext ar;replace a1:=a1.ext ar;refine El ?_;refine jP ?_ (hx:=by exact fun _=>(DN (Bn rfl) (by simp[hA])));refine jG ?_;refine jY ?_;refine jG ?_;refine jP ?_ (hx:=by exact fun _=>(D8 (b:=true) (e:=false) rfl rfl rfl));refine jG ?_;refine jY ?_;refine jG ?_;refine jY ?_;refine jG ?_;refine jP ?_ (hx:=by exact fun _=>(D8 (b:=true) (e:=false) rfl rfl rfl));refine jG ?_;refine C4 ?_;refine jG ?_;refine jJ func79 ?_;replace K0:=(K0.ext aq).ext ar;exact⟨_,rfl,by rw[Hn (fun h=>hA (h.2.2.2 i d hd).1)],K0⟩
   ·intro hc55
    refine jG ?_;refine jJ func79 ?_;exact⟨_,rfl,by rw[Gf ⟨hl64,hl65,M7 hk Zo,WB hk2 Zo⟩],K0⟩
end
section
theorem M8 {α:Type}{xs:List α}{p:α->Prop}{i:Nat}(h:∀j,j<i->∀x,xs[j]? =some x->p x)(hi:xs.length<=i):∀x∈xs,p x:=fun x hx=>by
 obtain⟨j,hj,rfl⟩:=AaG hx
 exact h j Zo _ (List.getElem?_eq_getElem hj)
theorem M9 {α:Type}{xs:List α}{p:α->Prop}{i:Nat}{x:α}(hx:xs[i]? =some x)(h:p x):∀y,xs[i]? =some y->p y:=fun y hy=>by rw[hx]at hy;cases hy;exact h
theorem Na {α β:Type}{f:β->α->β}{b:β}{xs:List α}{i:Nat}{x:α}(hx:xs[i]? =some x):(xs.take (i+1)).foldl f b=f ((xs.take i).foldl f b) x:=by
 obtain⟨hi,rfl⟩:=List.getElem?_eq_some_iff.1 hx
 rw[AaL hi,Abf];rfl
theorem G8.at {M l:List Ab}{i:Nat}{m:Ab}(h:G8 l (M.take i))(hm:M[i]? =some m)(hp:1<=m.count):G8 (I5 l m) (M.take (i+1)):=by
 obtain⟨hi,rfl⟩:=List.getElem?_eq_some_iff.1 hm
 rw[AaL hi];exact h.step hp
theorem G9.at {D l:List Ag}{i:Nat}{d:Ag}(h:G9 l (D.take i))(hd:D[i]? =some d):G9 (JF l d) (D.take (i+1)):=by
 obtain⟨hi,rfl⟩:=List.getElem?_eq_some_iff.1 hd
 rw[AaL hi];exact h.step _
theorem AC.pos {d:Ag}(h:AC d):1<=d.count:=by unfold AC at h;omega
def B9 (M:List Ab)(D:List Ag):Int×List Ab×List Ag:=
 if (∃m∈M,¬AC m.d)∨(∃d∈D,¬AC d)then(1,[],[])else if 64<(Cg M D).1.length∨64<(Cg M D).2.length then(4,[],[])else(0,(Cg M D).1,(Cg M D).2)
theorem WC {M:List Ab}{D:List Ag}{i:Nat}{m:Ab}(hm:M[i]? =some m)(h:¬AC m.d):B9 M D=(1,[],[]):=by rw[B9,if_pos (.inl ⟨m,BI hm,h⟩)]
theorem WD {M:List Ab}{D:List Ag}{i:Nat}{d:Ag}(hd:D[i]? =some d)(h:¬AC d):B9 M D=(1,[],[]):=by rw[B9,if_pos (.inr ⟨d,BI hd,h⟩)]
theorem Mf {M:List Ab}{D:List Ag}(hM:∀m∈M,AC m.d)(hD:∀d∈D,AC d):¬((∃m∈M,¬AC m.d)∨(∃d∈D,¬AC d)):=by
 rintro(⟨m,hm,h⟩|⟨d,hd,h⟩)
 ·exact h (hM m hm)
 ·exact h (hD d hd)
theorem PJ {M ms:List Ab}{D cl:List Ag}(hM:∀m∈M,AC m.d)(hD:∀d∈D,AC d)(h:Cg M D=(ms,cl))(hl:64<ms.length∨64<cl.length):B9 M D=(4,[],[]):=by
 rw[B9,if_neg (Mf hM hD),h,if_pos hl]
theorem UC {M ms:List Ab}{D cl:List Ag}(hM:∀m∈M,AC m.d)(hD:∀d∈D,AC d)(h:Cg M D=(ms,cl))(h1:ms.length<=64)(h2:cl.length<=64):B9 M D=(0,ms,cl):=by
 rw[B9,if_neg (Mf hM hD),h,if_neg Zp]
noncomputable def AU (ms:List Ab)(cl:List Ag)(ms':List Ab)(cl':List Ag):Int×List Ab×List Ag:=
 if BK ms cl=true∧BK ms' cl'=true then B9 (ms++ms') (cl++cl')else(30,[],[])
theorem Ou {ms ms':List Ab}{cl cl':List Ag}(h:¬(BK ms cl=true∧BK ms' cl'=true)):AU ms cl ms' cl'=(30,[],[]):=by rw[AU,if_neg h]
theorem Gg {ms ms':List Ab}{cl cl':List Ag}(h:BK ms cl=true)(h2:BK ms' cl'=true):AU ms cl ms' cl'=B9 (ms++ms') (cl++cl'):=by rw[AU,if_pos ⟨h,h2⟩]
attribute [local irreducible] AC DQ Cp BH Bz B4 Cb I5 JF B9 AU Cg
end
section
def UD (ms:List Ab)(ds:List Ag)(i:Nat):SS:=(ds.take i).foldl Q8 ⟨ms,[],false⟩
theorem UE {ms:List Ab}{ds:List Ag}{i:Nat}{d:Ag}(hd:ds[i]? =some d):UD ms ds (i+1)=Q8 (UD ms ds i) d:=Na hd
theorem Jq.sub {ms:List Ab}{ds:List Ag}{i:Nat}{d:Ag}(h:Jq ms (ds.take i) d):Jq ms ds d:=⟨h.1,h.2.elim .inl (fun h2=> .inr (AbL h2))⟩
theorem Ha.len {M ms:List Ab}{D ds:List Ag}{s:SS}{i:Nat}(h:Ha ms ds s i)(hS:KT M D ms ds):s.ms.length+s.left.length<=M.length+D.length:=by
 have:=h.hlen;have:=hS.hl;have:(ds.take i).length<=ds.length:=by rw[List.length_take];omega
 omega
theorem Ha.up {M ms:List Ab}{D ds:List Ag}{i:Nat}{d:Ag}(h:Ha ms ds (UD ms ds i) i)(hS:KT M D ms ds)(hd:ds[i]? =some d):Ha ms ds (UD ms ds (i+1)) (i+1):=by
 rw[UE hd];exact h.step hd (hS.hd d (BI hd))
attribute [local irreducible] AC DQ Cp BH Bz B4 Cb I5 JF B9 AU Cg UD Jq
end
section
theorem UF {α:Type}{xs:List α}{i:Nat}(h:xs.length<=i):xs.take i=xs:=AaA h
theorem Gh {M:List Ab}{D:List Ag}(hM:∀m∈M,AC m.d)(hD:∀d∈D,AC d):(64<(Cg M D).1.length∨64<(Cg M D).2.length->B9 M D=(4,[],[]))∧(¬(64<(Cg M D).1.length∨64<(Cg M D).2.length)->B9 M D=(0,(Cg M D).1,(Cg M D).2)):=
 ⟨fun h=>PJ hM hD rfl h,fun h=>UC hM hD rfl Zo Zo⟩
theorem Rb {M:List Ab}{D:List Ag}(hM:∀m∈M,AC m.d)(hD:∀d∈D,AC d):(∀m∈M,1<=m.count)∧∀d∈D,1<=d.count:=⟨fun m hm=>(hM m hm).pos,fun d hd=>(hD d hd).pos⟩
attribute [local irreducible] AC DQ Cp BH Bz B4 Cb I5 JF B9 AU Cg UD Jq
end
end Go.Proofs.YtjkaicjmfgekjaaGreatDoor
