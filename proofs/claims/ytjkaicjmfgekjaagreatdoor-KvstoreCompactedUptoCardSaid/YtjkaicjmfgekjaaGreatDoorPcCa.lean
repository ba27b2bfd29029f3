/-
  Ca, Cb, Cc, Cd, Ce
-/
import Derived.Test.YtjkaicjmfgekjaaGreatDoorPcWa
set_option linter.all false
set_option maxRecDepth 100000
set_option maxHeartbeats 4000000
namespace Go.Proofs.YtjkaicjmfgekjaaGreatDoor
open Go.Proofs.Tryz
attribute [local irreducible] RD RS AB RL RA RT CB Ai
section
structure AZ where
 node:Int
 life:Int
instance : Enc AZ:=Enc.struct (λt=>[.int .i64 t.node,.int .i64 t.life]) 2 (λ_=>rfl) (λ_ v hv=>by simp at hv;rcases hv with rfl|rfl<;>rfl) Zd
def AZ.ext' {a b:AZ}(h0:a.node=b.node)(h1:a.life=b.life):a=b:=by cases a;cases b;simp_all
instance : DecidableEq AZ:=λa b=>if h:a.node=b.node/\a.life=b.life then isTrue (AZ.ext' h.1 h.2)else isFalse (λe=>h (by subst e;exact⟨rfl,rfl⟩))
def Qr (m:Nat)(a b:AZ)(w:World):(Op.equalIn (m+2) 170 (.agg #[.int .i64 a.node,.int .i64 a.life]) (.agg #[.int .i64 b.node,.int .i64 b.life])).run prog w= .ok (decide (a=b)) w:=by
 have h:=run_equalIn_struct (P:=prog) w (m+1) 170 #[.int .i64 a.node,.int .i64 a.life] #[.int .i64 b.node,.int .i64 b.life] underlying170 Zk;have h2:=(A8 (P:=prog) (d:=m+1) (xs:=#[.int .i64 a.node,.int .i64 a.life]) (ys:=#[.int .i64 b.node,.int .i64 b.life]) (fd:=(prog.fieldsOf 170).toList[0]) (fs:=[(prog.fieldsOf 170).toList[1]]) (r:=a.node==b.node) Zk (Bz ty3 rfl) (Bz ty3 rfl) (λw=>run_equalIn_int w m 3 .i64 .i64 a.node b.node underlying3) (A8 (P:=prog) (d:=m+1) (xs:=#[.int .i64 a.node,.int .i64 a.life]) (ys:=#[.int .i64 b.node,.int .i64 b.life]) (fd:=(prog.fieldsOf 170).toList[1]) (fs:=[]) (r:=a.life==b.life) Zk (Bz ty3 rfl) (Bz ty3 rfl) (λw=>run_equalIn_int w m 3 .i64 .i64 a.life b.life underlying3) (C5 (m+1) _ _))) w;refine h.trans (h2.trans ?_);congr 1;rw[AaD];simp only[Aao,beq_iff_eq,and_true,decide_eq_true_eq,Fi];exact⟨λh=>AZ.ext' h.1 h.2,λh=>by subst h;exact⟨rfl,rfl⟩⟩
def Ei (a b:AZ)(w:World):(Op.equalIn 10000 170 (.agg #[.int .i64 a.node,.int .i64 a.life]) (.agg #[.int .i64 b.node,.int .i64 b.life])).run prog w= .ok (decide (a=b)) w:=Qr 9998 a b w
def DP (d:Ah):Prop:=(0<=d.node/\d.node<=4611686018427387904)/\(0<=d.life/\d.life<=4611686018427387904)/\(0<=d.count/\d.count<=4611686018427387904)
def AD (d:Ah):Prop:=(0<=d.node/\d.node<8)/\(1<=d.life/\d.life<=1099511627776)/\(1<=d.count/\d.count<=1099511627776)
instance : DecidablePred AD:=λd=>by unfold AD;infer_instance
def AD.sm {d:Ah}(h:AD d):DP d:=by unfold AD at h;unfold DP;omega
abbrev Ab.d (m:Ab):Ah:=⟨m.node,m.life,m.count⟩
abbrev Ah.m (d:Ah):Ab:=⟨d.node,d.life,d.count⟩
abbrev Ab.z (m:Ab):Ah:=⟨m.node,m.life,0⟩
abbrev Ah.a (d:Ah):AZ:=⟨d.node,d.life⟩
def AD.z {m:Ab}(h:AD m.d):DP m.z:=by simp only[AD,Ab.d,DP,Ab.z]at*;omega
def By (a b:Ah):Int:=if a.node=b.node then(if a.life=b.life then a.count-b.count else a.life-b.life)else a.node-b.node
def Cx (a b:Ah):Prop:=a.node<b.node\/a.node=b.node/\(a.life<b.life\/a.life=b.life/\a.count<b.count)
instance (a b:Ah):Decidable (Cx a b):=by unfold Cx;infer_instance
def BI (a b:Ab):Prop:=a.node<b.node\/a.node=b.node/\a.life<b.life
instance (a b:Ab):Decidable (BI a b):=by unfold BI;infer_instance
def Ah.eta {a b:Ah}(h1:a.node=b.node)(h2:a.life=b.life)(h3:a.count=b.count):a=b:=by cases a;cases b;simp_all
def EU {a b:Ah}:By a b<0↔Cx a b:=by
 unfold By Cx;split
 ·split<;>constructor<;>omega
 constructor<;>omega
def RG {a b:Ah}:0<=By a b↔¬Cx a b:=by rw[<-EU];omega
def RH {a b:Ah}:By a b=0↔a=b:=by
 constructor
 ·intro h;unfold By at h;split at h
  ·split at h
   ·exact Ah.eta Zo Zo Zo
   omega
  omega
 rintro rfl;simp[By]
def U1 {a b:Ab}:0<=By a.z b.z↔¬BI a b:=by rw[RG];simp only[Cx,BI,Ab.z];omega
def Ff {a b c:Ah}(h1:Cx a b)(h2:Cx b c):Cx a c:=by unfold Cx at*;omega
def NE {a:Ah}:¬Cx a a:=by unfold Cx;omega
def Ke {a b:Ah}(h:¬Cx a b)(h2:¬Cx b a):a=b:=by unfold Cx at*;exact Ah.eta Zo Zo Zo
def CR {a b c:Ab}(h1:BI a b)(h2:BI b c):BI a c:=by unfold BI at*;omega
def IA {a:Ab}:¬BI a a:=by unfold BI;omega
def Ca (ms:List Ab)(a:AZ):Int:=match ms.find? (λm=>decide (m.d.a=a))with|some m=>m.count|none=>0
def Y2 {ms:List Ab}{a:AZ}{i:Nat}{m:Ab}(hx:ms[i]? =some m)(ha:m.d.a=a)(hno:GS (λm=>decide (m.d.a=a)) ms i):Ca ms a=m.count:=by
 have:ms.find? (λm=>decide (m.d.a=a))=some m:=by
  rw[List.find?_eq_some_iff_getElem];obtain⟨hi,rfl⟩:=List.getElem?_eq_some_iff.1 hx;exact⟨decide_eq_true ha,i,hi,rfl,λj hj=>by
   have h:=hno j _ hj (List.getElem?_eq_getElem Zo);have h':¬(ms[j].d.a=a):=of_decide_eq_false h;simp[h']⟩
 rw[Ca,this]
def Y3 {ms:List Ab}{a:AZ}{i:Nat}(hno:GS (λm=>decide (m.d.a=a)) ms i)(hi:ms.length<=i):Ca ms a=0:=by
 have:ms.find? (λm=>decide (m.d.a=a))=none:=by
  rw[Abf];intro x hx;obtain⟨j,hj,rfl⟩:=AaI hx;have h:=hno j _ Zo (List.getElem?_eq_getElem hj);simp only at h;simp[h]
 rw[Ca,this]
def Yi (ms:List Ab)(i:Nat):Prop:=∀m,ms[i]? =some m->AD m.d/\(0<i->∀x,ms[i-1]? =some x->BI x m)
def S3 (ms:List Ab)(cl:List Ah)(i:Nat):Prop:=∀d,cl[i]? =some d->AD d/\(0<i->∀x,cl[i-1]? =some x->Cx x d)/\Ca ms d.a+1<d.count
def EO (ms:List Ab)(cl:List Ah):Prop:=ms.length<=64/\cl.length<=64/\(∀i,Yi ms i)/\∀i,S3 ms cl i
open Classical in
noncomputable def BL (ms:List Ab)(cl:List Ah):Bool:=decide (EO ms cl)
def Fy {ms:List Ab}{cl:List Ah}:BL ms cl=true↔EO ms cl:=by simp[BL]
def Hr {ms:List Ab}{cl:List Ah}(h:¬EO ms cl):BL ms cl=false:=by simp[BL,h]
def Gd {ms:List Ab}{cl:List Ah}(h:EO ms cl):BL ms cl=true:=Fy.2 h
def B6 (ms:List Ab)(cl:List Ah)(d:Ah):Prop:=(1<=d.count/\d.count<=Ca ms d.a)\/(1<=d.count/\d∈cl)
instance (ms :List Ab)(cl:List Ah)(d:Ah):Decidable (B6 ms cl d):=by unfold B6;infer_instance
section
variable {ms :List Ab}{cl:List Ah}{i:Nat}{m x:Ab}{d y:Ah}
def EO.may (h:EO ms cl)(hm:m∈ms):AD m.d:=by
 obtain⟨j,hj,rfl⟩:=AaI hm;exact(h.2.2.1 j _ (List.getElem?_eq_getElem hj)).1
def EO.mayC (h:EO ms cl)(hd:d∈cl):AD d:=by
 obtain⟨j,hj,rfl⟩:=AaI hd;exact(h.2.2.2 j _ (List.getElem?_eq_getElem hj)).1
def FM {a:AZ}(h:Ca ms a≠0):∃m∈ms,m.d.a=a/\m.count=Ca ms a:=by
 unfold Ca at*;split at h
 ·rename_i m hm;exact⟨m,Aco hm,by simpa using List.find?_some hm,by simp⟩
 exact absurd rfl h
def EO.cov (h:EO ms cl)(hd:B6 ms cl d):AD d:=by
 rcases hd with⟨h1,h2⟩|⟨-,hd⟩
 ·obtain⟨m,hm,ha,e⟩:=FM (ms:=ms) (a:=d.a) Zo;have:=h.may hm
  simp only[AD,Ab.d,Ah.a,AZ.mk.injEq]at*;omega
 exact h.mayC hd
def covers_ite :(decide (1<=d.count)&&(decide (d.count<=Ca ms d.a)||cl.any (d==·)))=decide (B6 ms cl d):=by
 rw[AaD,Aao,Abp,decide_eq_true_eq,decide_eq_true_eq,decide_eq_true_eq,Abj];simp only[B6,beq_iff_eq];constructor
 ·rintro⟨h1,h2|⟨x,hx,rfl⟩⟩
  ·exact .inl ⟨h1,h2⟩
  exact .inr ⟨h1,hx⟩
 rintro(⟨h1,h2⟩|⟨h1,h2⟩)
 ·exact⟨h1,.inl h2⟩
 exact⟨h1,.inr ⟨d,h2,rfl⟩⟩
end
attribute [local irreducible] X
def Y4 (n:Int)(w:World):
  Calls prog 195 #[.int .i64 n] w (AU (λv w'=>v= .bool (decide (0<=n)&&decide (n<8))/\As w w')):=by
 refine kD (n:=9) func195 ?_;refine kE (Bo rfl rfl rfl) ?_;refine jJ func195 ?_;exact⟨_,rfl,rfl,(Ae.refl _ w)⟩
def Y5 (n:Int)(w:World):
  Calls prog 196 #[.int .i64 n] w (AU (λv w'=>v= .bool (decide (1<=n)&&decide (n<=1099511627776))/\As w w')):=by
 refine kD (n:=9) func196 ?_;refine kE (Bo rfl rfl rfl) ?_;refine jJ func196 ?_;exact⟨_,rfl,rfl,(Ae.refl _ w)⟩
def Xf (n:Int)(w:World):
  Calls prog 197 #[.int .i64 n] w (AU (λv w'=>v= .bool (decide (1<=n)&&decide (n<=1099511627776))/\As w w')):=by
 refine kD (n:=9) func197 ?_;refine kE (Bo rfl rfl rfl) ?_;refine jJ func197 ?_;exact⟨_,rfl,rfl,(Ae.refl _ w)⟩
def MH (d:Ah)(w:World):
  Calls prog 137 #[.agg #[.int .i64 d.node,.int .i64 d.life,.int .i64 d.count]] w (AU (λv w'=>v= .bool (decide (AD d))/\As w w')):=by
 refine kD (n:=16) func137 ?_;refine kQ ?_;intro a4 a7 a1 a0 a5;have:w.heap.size<=a4:=a1;clear a1;have K0:=(a5:As w _);refine jG ?_;refine kS (Y4 d.node _) ?_;rintro _ a8 ⟨rfl,a2⟩;replace a0:=a0.ext a2;refine jG ?_;refine RL.gcall (vals:=[.int .i64 d.life]) (BX rfl rfl rfl rfl) en196.h (λhg=>(C2 (B4 hg) HC)) (λhg=>(Y5 d.life _)) ?_;intro a9 a3;refine jV (Bo rfl rfl rfl) ?_;replace a0:=a0.ext a3;refine jG ?_;refine RL.gcall (vals:=[.int .i64 d.count]) (BX rfl rfl rfl rfl) en197.h (λhg=>(C2 (B4 hg) HC)) (λhg=>(Xf d.count _)) ?_;intro aa a6;refine kE (Bo rfl rfl rfl) ?_;refine jJ func137 ?_;replace K0:=((K0.ext a2).ext a3).ext a6;exact⟨_,rfl,congrArg Value.bool (by rw[AaD];simp only[AD,Aao,decide_eq_true_eq,and_assoc]),K0⟩
def H0 (m:Ab)(w:World):
  Calls prog 138 #[.agg #[.int .i64 m.node,.int .i64 m.life,.int .i64 m.count]] w (AU (λv w'=>v= .agg #[.int .i64 m.d.node,.int .i64 m.d.life,.int .i64 m.d.count]/\As w w')):=by
 refine kD (n:=4) func138 ?_;refine kQ ?_;intro a5 a8 a3 a0 a6;have:w.heap.size<=a5:=a3;clear a3;have K0:=(a6:As w _);refine kR ?_;intro a9 aa a1 a2 a4;have ab:=Ak a0.lt a1;have:=Aaa K0.size a1;clear a1;replace a0:=a0.ext a4;refine jG ?_;refine jR<|jS a2 ?_;intro ac a2 a7;refine jG ?_;refine Ai.retC (cs:=#[.int .i64 m.node,.int .i64 m.life,.int .i64 m.count]) func138 rfl ty73 rfl rfl a2.cl ?_;replace K0:=(K0.ext a4).n1 a7;exact⟨_,rfl,rfl,K0⟩
def FW (d:Ah)(w:World):
  Calls prog 141 #[.agg #[.int .i64 d.node,.int .i64 d.life,.int .i64 d.count]] w (AU (λv w'=>v= .agg #[.int .i64 d.a.node,.int .i64 d.a.life]/\As w w')):=by
 refine kD (n:=8) func141 ?_;refine kQ ?_;intro a5 a8 a3 a0 a6;have:w.heap.size<=a5:=a3;clear a3;have K0:=(a6:As w _);refine kR ?_;intro a9 aa a1 a2 a4;have ab:=Ak a0.lt a1;have:=Aaa K0.size a1;clear a1;replace a0:=a0.ext a4;refine jG ?_;refine jV (AO (cells:=#[.int .i64 d.node,.int .i64 d.life]) Zk) ?_;refine jR<|jS a2 ?_;intro ac a2 a7;refine jG ?_;refine Ai.retC (cs:=#[.int .i64 d.node,.int .i64 d.life]) func141 rfl ty170 rfl rfl a2.cl ?_;replace K0:=(K0.ext a4).n1 a7;exact⟨_,rfl,rfl,K0⟩
def Qs (a b:Ah)(w:World)(ha:DP a)(hb:DP b):
  Calls prog 139 #[.agg #[.int .i64 a.node,.int .i64 a.life,.int .i64 a.count],.agg #[.int .i64 b.node,.int .i64 b.life,.int .i64 b.count]] w (AU (λv w'=>v= .int .i64 (By a b)/\As w w')):=by
 obtain⟨ha1,ha2,ha3⟩:=ha;obtain⟨hb1,hb2,hb3⟩:=hb;refine kD (n:=32) func139 ?_;refine kQ ?_;intro a4 a6 a2 a0 a5;have:w.heap.size<=a4:=a2;clear a2;have K0:=(a5:As w _);refine kQ ?_;intro a7 a8 a1 a9 a3;have aa:=Ak a0.lt a1;have:=Aaa K0.size a1;clear a1;replace a0:=a0.ext a3;refine jG ?_;replace K0:=K0.ext a3;refine jF ?_ ?_
 ·intro hc5;refine jG ?_;refine kE (B8 rfl rfl Zo Zo) ?_;refine jJ func139 ?_;exact⟨_,rfl,by rw[By,if_neg hc5],K0⟩
 intro hc5;refine kK ?_ ?_
 ·intro hc16;refine jG ?_;refine kE (B8 rfl rfl Zo Zo) ?_;refine jJ func139 ?_;exact⟨_,rfl,by rw[By,if_pos hc5,if_neg hc16],K0⟩
 intro hc16;refine jG ?_;refine kE (B8 rfl rfl Zo Zo) ?_;refine jJ func139 ?_;exact⟨_,rfl,by rw[By,if_pos hc5,if_pos hc16],K0⟩
def O0 (am:Option Addr)(ms:List Ab)(cm:Nat)(ac:Option Addr)(cl:List Ah)(cc:Nat)(a:AZ)(w:World)(hs:Ax w am ms)(ht:Ax w ac cl)(hl:ms.length<=4294967295)(hl2:cl.length<=4294967295):
  Calls prog 140 #[.agg #[.slice am ms.length cm,.slice ac cl.length cc],.agg #[.int .i64 a.node,.int .i64 a.life]] w (AU (λv w'=>v= .int .i64 (Ca ms a)/\As w w')):=by
 refine kD (n:=22) func140 ?_;refine kQ ?_;intro ab ai ad a1 ah;have:w.heap.size<=ab:=ad;clear ad;have K0:=(ah:As w _);refine kQ ?_;intro ae aj a8 a0 af;have ak:=Ak a1.lt a8;have:=Aaa K0.size a8;clear a8;replace a1:=a1.ext af;refine jG ?_;replace K0:=K0.ext af;refine Ai.loop (ι:=Nat) (λi ρ' w'=>Holds ρ' [(3,jp ae),(8,.slice am ms.length cm),(9,.int .i64 ((ms.length:Nat):Int)),(10,.int .i64 ((i:Nat):Int))]/\As w w'/\(AC w' ab [.slice am ms.length cm,.slice ac cl.length cc] 31)/\(AC w' ae [.int .i64 a.node,.int .i64 a.life] 170)/\(i<=ms.length)/\(GS (λm=>decide (m.d.a=a)) ms i)) (λi=>ms.length-i) 0 ?_ ?_
 ·refine⟨⟨rfl,rfl,rfl,rfl,trivial⟩,K0,a1,a0,?_,?_⟩
  ·omega
  exact GS.zero _ _
 clear a1 a0;clear K0;rintro i al an ⟨ag,K0,a1,a0,hi,hno⟩ ih1;obtain⟨ρ₀,rfl⟩:=ag.ex;clear ag;refine kK ?_ ?_
 ·intro hc11;obtain⟨ao,ap,m,hx,aq,a4⟩:=hs.eo i;have hc_18_lt:=a4.lt;replace a4:=a4.ext K0;refine kP ?_;intro ar au a3 a2 a9;have av:=Ak a1.lt a3;have aw:=Ak a0.lt a3;have ax:=Ak a4.lt a3;have:=Aaa K0.size a3;clear a3;refine jR<|jS a2 ?_;intro ay a2 aa;refine jG ?_;refine Ai.drawS [] [1000,1003,2001,2002,4] ?_;intro az a5;replace a0:=((a0.ext a9).kp aa).ext a5;replace a2:=a2.ext a5;refine kF (jb a0 (jb a2 Jn)) ?_;refine jU rfl<|jC (H0 m _) ?_;rintro _ aA ⟨rfl,a6⟩;replace a0:=a0.ext a6;replace a2:=a2.ext a6;refine jG ?_;refine jU rfl<|jC (FW (Ab.d m) _) ?_;rintro _ aB ⟨rfl,a7⟩;replace a0:=a0.ext a7;replace a2:=a2.ext a7;refine jG ?_;refine jP ?_ (hx:=by exact λ_=>(GK Zk rfl rfl (Ei (Ah.a (Ab.d m)) a)));refine jG ?_;replace a1:=((((a1.ext a9).kp aa).ext a5).ext a6).ext a7;replace K0:=((((K0.ext a9).n1 aa).ext a5).ext a6).ext a7;refine jF ?_ ?_
  ·intro hc18;refine kL func140 ?_;exact⟨_,rfl,by rw[Y2 hx hc18 hno],K0⟩
  intro hc18;refine jG ?_;refine kC i ?_;refine ih1 (i+1) _ _ ?_ Zo;refine⟨⟨rfl,rfl,rfl,rfl,trivial⟩,K0,a1,a0,?_,?_⟩
  ·omega
  exact hno.step hx (decide_eq_false hc18)
 intro hc11;refine kL func140 ?_;exact⟨_,rfl,by rw[Y3 hno Zo],K0⟩
def Xg (a:Option Addr)(xs:List Ah)(c:Nat)(x:Ah)(w:World)(hs:Ax w a xs)(hl:xs.length<=4294967295):
  Calls prog 240 #[.slice a xs.length c,.agg #[.int .i64 x.node,.int .i64 x.life,.int .i64 x.count]] w (AU (λv w'=>v= .int .i64 (GM (x==·) xs)/\As w w')):=by
 refine kD (n:=19) func240 ?_;refine kQ ?_;intro a1 a7 a4 a0 a6;have:w.heap.size<=a1:=a4;clear a4;have K0:=(a6:As w _);refine jG ?_;refine Ai.loop (ι:=Nat) (λi ρ' w'=>Holds ρ' [(0,.slice a xs.length c),(3,jp a1),(7,.int .i64 ((xs.length:Nat):Int)),(8,.int .i64 ((i:Nat):Int))]/\As w w'/\(AC w' a1 [.int .i64 x.node,.int .i64 x.life,.int .i64 x.count] 73)/\(i<=xs.length)/\(GS (x==·) xs i)) (λi=>xs.length-i) 0 ?_ ?_
 ·refine⟨⟨rfl,rfl,rfl,rfl,trivial⟩,K0,a0,?_,?_⟩
  ·omega
  exact GS.zero _ _
 clear a0;clear K0;rintro i a8 a9 ⟨a5,K0,a0,hi,hno⟩ ih1;obtain⟨ρ₀,rfl⟩:=a5.ex;clear a5;refine kK ?_ ?_
 ·intro hc9;refine jG ?_;obtain⟨aa,ab,e,hx,ac,a2⟩:=hs.eo i;have hc_14_lt:=a2.lt;refine Ai.drawR ?_;intro ad a3;replace a2:=(a2.ext K0).ext a3;replace a0:=a0.ext a3;refine jG ?_;refine jD (GK Zk rfl rfl (GA x e)) ?_;refine jG ?_;replace K0:=K0.ext a3;refine jF ?_ ?_
  ·intro hc16;refine kL func240 ?_;exact⟨_,rfl,by rw[Ig hx (by simpa using hc16) hno],K0⟩
  intro hc16;refine jG ?_;refine kC i ?_;refine ih1 (i+1) _ _ ?_ Zo;refine⟨⟨rfl,rfl,rfl,rfl,trivial⟩,K0,a0,?_,?_⟩
  ·omega
  exact hno.step hx (by simpa using hc16)
 intro hc9;refine kL func240 ?_;exact⟨_,rfl,by rw[GW hno Zo],K0⟩
def Qt (a:Option Addr)(xs:List Ah)(c:Nat)(x:Ah)(w:World)(hs:Ax w a xs)(hl:xs.length<=4294967295):
  Calls prog 202 #[.slice a xs.length c,.agg #[.int .i64 x.node,.int .i64 x.life,.int .i64 x.count]] w (AU (λv w'=>v= .bool (xs.any (x==·))/\As w w')):=by
 refine kD (n:=9) func202 ?_;refine kQ ?_;intro a1 a4 a0 a5 a2;have:w.heap.size<=a1:=a0;clear a0;have K0:=(a2:As w _);refine jG ?_;refine kS (Xg _ _ _ x _ (hs.ext K0) Zo) ?_;rintro _ a6 ⟨rfl,a3⟩;refine kL func202 ?_;replace K0:=K0.ext a3;exact⟨_,rfl,by rw[Ih],K0⟩
def RI (a:Option Addr)(xs:List Ah)(c:Nat)(d:Option Addr)(ys:List Ah)(e:Nat)(w:World)(hs:Ax w a xs)(ht:Ax w d ys)(hl:xs.length<=4294967295):
  Calls prog 84 #[.slice a xs.length c,.slice d ys.length e] w (AU (λv w'=>v= .bool (decide (xs=ys))/\As w w')):=by
 refine kD (n:=26) func84 ?_;refine jF ?_ ?_
 ·intro hc10;refine kL func84 ?_;exact⟨_,rfl,by rw[decide_eq_false (λh=>hc10 (by rw[h]))],(Ae.refl _ w)⟩
 intro hc10;have hlen:xs.length=ys.length:=by omega
 refine jG ?_;refine Ai.loop (ι:=Nat) (λi ρ' w'=>Holds ρ' [(0,.slice a xs.length c),(1,.slice d ys.length e),(12,.int .i64 ((xs.length:Nat):Int)),(13,.int .i64 ((i:Nat):Int))]/\As w w'/\(i<=xs.length)/\(EX xs ys i)) (λi=>xs.length-i) 0 ?_ ?_
 ·refine⟨⟨rfl,rfl,rfl,rfl,trivial⟩,(Ae.refl _ w),?_,?_⟩
  ·omega
  exact EX.zero _ _
 rintro i a4 a5 ⟨a3,K0,hi,hno⟩ ih1;obtain⟨ρ₀,rfl⟩:=a3.ex;clear a3;refine kK ?_ ?_
 ·intro hc14;refine jG ?_;obtain⟨a6,a7,x,hx,a8,a0⟩:=hs.eo i;have hc_9_lt:=a0.lt;obtain⟨a9,aa,y,hy,ab,a1⟩:=ht.eo i;have hc_15_lt:=a1.lt;refine Ai.drawR ?_;intro ac a2;replace a0:=(a0.ext K0).ext a2;replace a1:=(a1.ext K0).ext a2;refine jG ?_;refine jD (JC Zk rfl rfl (GA x y)) ?_;refine jG ?_;replace K0:=K0.ext a2;refine jF ?_ ?_
  ·intro hc24;refine kL func84 ?_;exact⟨_,rfl,by rw[decide_eq_false (GX hx hy hc24)],K0⟩
  intro hc24;refine jG ?_;refine kC i ?_;refine ih1 (i+1) _ _ ?_ Zo;refine⟨⟨rfl,rfl,rfl,rfl,trivial⟩,K0,?_,?_⟩
  ·omega
  exact hno.step hx hy hc24
 intro hc14;refine kL func84 ?_;exact⟨_,rfl,by rw[decide_eq_true (hno.all hlen Zo)],K0⟩
def NF (a:Option Addr)(xs:List Ah)(c:Nat)(w:World)(hs:Ax w a xs)(hl:xs.length<=4294967295):
  Calls prog 86 #[.slice a xs.length c] w (AU (λv w'=>∃a' c',v= .slice a' xs.length c'/\Af w' 73 a' c' xs/\(∀b,own a' b->w.heap.size<=b)/\As w w')):=by
 refine kD (n:=8) func86 ?_;refine kE (J1 underlying29 rfl rfl) ?_;refine Ai.cond rfl (λhc4=> ?_) (λhc4=> ?_)
 ·skip;refine kL func86 ?_;have hx:=hs.nil_of hc4;subst hx;exact⟨_,rfl,none,0,rfl,Af.nil _ _,λb h=>absurd h (Ad b),(Ae.refl _ w)⟩
 skip;refine jG ?_;refine jR<|AB.buildSlice ([]:List Ah) underlying29 ty73 rfl rfl Ze ?_;intro ab ac a0 a4 a5;have a1:=Bg (Aac _) (Du a0);clear a0;have K0:=(a5:As w _);refine jG ?_;refine jR<|AB.append (xs:=([]:List Ah)) (ys:=xs) underlying29 ty73 rfl rfl rfl a4 (hs.ext K0) Zr Zd ?_;intro a2 a6 ad a7 a8 a3 a9;have aa:∀q_,own a2 q_->w.heap.size<=q_:=a3.ge a1 K0.size;clear a3;clear a9;refine kL func86 ?_;replace K0:=K0.new a8 a1;exact⟨_,rfl,a2,a6,by rw[Aay],by simpa using a7,aa,K0⟩
def Kf (am:Option Addr)(ms:List Ab)(cm:Nat)(ac:Option Addr)(cl:List Ah)(cc:Nat)(d:Ah)(w:World)(hs:Ax w am ms)(ht:Ax w ac cl)(hl:ms.length<=4294967295)(hl2:cl.length<=4294967295):
  Calls prog 144 #[.agg #[.slice am ms.length cm,.slice ac cl.length cc],.agg #[.int .i64 d.node,.int .i64 d.life,.int .i64 d.count]] w (AU (λv w'=>v= .bool (decide (B6 ms cl d))/\As w w')):=by
 refine kD (n:=23) func144 ?_;refine kQ ?_;intro a9 ab a7 a0 aa;have:w.heap.size<=a9:=a7;clear a7;have K0:=(aa:As w _);refine kQ ?_;intro ad ae a2 a1 a8;have af:=Ak a0.lt a2;have:=Aaa K0.size a2;clear a2;refine jG ?_;refine Ai.drawS [] [0,1001,2,3,4,1005,1006,1007,2008,2009,10,11,12,1013,1014,2015,16,17,18] ?_;intro ag a3;replace a0:=(a0.ext a8).ext a3;replace a1:=a1.ext a3;refine kF (jb a0 (jb a1 Jn)) ?_;refine jZ (λhg=>(FW d _)) ?_;intro ah a4;replace a0:=a0.ext a4;replace a1:=a1.ext a4;refine jG ?_;replace K0:=((K0.ext a8).ext a3).ext a4;refine jZ (λhg=>(O0 am ms cm ac cl cc (Ah.a d) _ (hs.ext K0) (ht.ext K0) Zo Zo)) ?_;intro ai a5;replace a0:=a0.ext a5;replace a1:=a1.ext a5;refine jG ?_;replace K0:=K0.ext a5;refine jZ (λhg=>(Qt _ _ _ d _ (ht.ext K0) Zo)) ?_;intro aj a6;replace a0:=a0.ext a6;replace a1:=a1.ext a6;refine jG ?_;refine jQ ?_ (hx:=by exact λ_ hg=>(Kw hg rfl rfl rfl));refine jP ?_ (hx:=by exact λ_=>(Bo rfl rfl rfl));refine kL func144 ?_;replace K0:=K0.ext a6;exact⟨_,rfl,by rw[<-covers_ite],K0⟩
end
section
def H1 {α : Type} {r : α -> α -> Prop} (irr : ∀ a, ¬ r a a) (tr : ∀ a b c, r a b -> r b c -> r a c) :
    ∀ {l l' : List α}, l.Pairwise r -> l'.Pairwise r -> (∀ x, x ∈ l ↔ x ∈ l') -> l = l'
  | [], [], _, _, _ => rfl
  | [], b :: l', _, _, h => absurd ((h b).2 Zs) Zs
  | a :: l, [], _, _, h => absurd ((h a).1 Zs) Zs
  | a :: l, b :: l', h1, h2, h => by
    rw [Aaw] at h1 h2;have hab : a = b := by
      rcases List.mem_cons.1 ((h a).1 Zs) with e | ha
      · exact e
      rcases List.mem_cons.1 ((h b).2 Zs) with e | hb
      · exact e.symm
      exact absurd (tr _ _ _ (h1.1 b hb) (h2.1 a ha)) (irr a)
    subst hab;congr 1;refine H1 irr tr h1.2 h2.2 λx => ⟨λhx => ?_, λhx => ?_⟩
    · rcases List.mem_cons.1 ((h x).1 (Aau _ hx)) with e | h3
      · subst e; exact absurd (h1.1 x hx) (irr x)
      exact h3
    rcases List.mem_cons.1 ((h x).2 (Aau _ hx)) with e | h3
    · subst e; exact absurd (h2.1 x hx) (irr x)
    exact h3
def S4 {l l':List Ab}(h1:l.Pairwise BI)(h2:l'.Pairwise BI)(h:∀x,x∈l↔x∈l'):l=l':=
 H1 (λ_=>IA) (λ_ _ _=>CR) h1 h2 h
def S5 {l l':List Ah}(h1:l.Pairwise Cx)(h2:l'.Pairwise Cx)(h:∀x,x∈l↔x∈l'):l=l':=
 H1 (λ_=>NE) (λ_ _ _=>Ff) h1 h2 h
def H2 {a b:Ab}(h:BI a b):a.d.a≠b.d.a:=by
 simp only[Ab.d,Ah.a,ne_eq,AZ.mk.injEq];unfold BI at h;omega
def NG {a b:Ab}(h:a.d.a≠b.d.a):BI a b\/BI b a:=by
 simp only[Ab.d,Ah.a,ne_eq,AZ.mk.injEq]at h;unfold BI;omega
def MI {a b c:Ab}(h:a.d.a=b.d.a):BI a c↔BI b c:=by
 simp only[Ab.d,Ah.a,AZ.mk.injEq]at h;unfold BI;omega
def Li {a b c:Ab}(h:a.d.a=b.d.a):BI c a↔BI c b:=by
 simp only[Ab.d,Ah.a,AZ.mk.injEq]at h;unfold BI;omega
def Ab.eta {a b:Ab}(h:a.d.a=b.d.a)(h2:a.count=b.count):a=b:=by
 cases a;cases b;simp only[Ab.d,Ah.a,AZ.mk.injEq]at h;simp_all
def Fz (m:Ab)(l:List Ab)(a:AZ):Ca (m::l) a=if m.d.a=a then m.count else Ca l a:=by
 unfold Ca;rw[Abo];by_cases h:m.d.a=a
 ·simp[h]
 simp[h]
def EP {l : List Ab} (h : l.Pairwise BI) {m : Ab} (hm : m ∈ l) : Ca l m.d.a = m.count := by
  induction l with
  | nil => cases hm
  | cons x l ih =>
    rw [Aaw] at h;rw [Fz];rcases List.mem_cons.1 hm with rfl | h2
    · rw [if_pos rfl]
    rw [if_neg (H2 (h.1 m h2)), ih h.2 h2]
structure CE (ms:List Ab)(cl:List Ah):Prop where
 hm:ms.Pairwise BI
 hp:∀m∈ms,1<=m.count
 hc:cl.Pairwise Cx
 hg:∀d∈cl,Ca ms d.a+1<d.count
def CE.pos {ms:List Ab}{cl:List Ah}(h:CE ms cl)(a:AZ):0<=Ca ms a:=by
 by_cases hz:Ca ms a=0
 ·omega
 obtain⟨m,hm,-,e⟩:=FM hz;have:=h.hp m hm;omega
def CE.nil :CE [] []:=⟨List.Pairwise.nil,by simp,List.Pairwise.nil,by simp⟩
def Lj {ms ms':List Ab}{cl cl':List Ah}(h:CE ms cl)(h':CE ms' cl')(he:∀d,B6 ms cl d->B6 ms' cl' d)(a:AZ):Ca ms a<=Ca ms' a:=by
 obtain⟨an,al⟩:=a;refine Decidable.byContradiction λhlt=> ?_;have hp':=h'.pos ⟨an,al⟩;have hq:B6 ms cl ⟨an,al,Ca ms' ⟨an,al⟩+1⟩:= .inl ⟨by show(1:Int)<=Ca ms' ⟨an,al⟩+1;omega,by show Ca ms' ⟨an,al⟩+1<=Ca ms ⟨an,al⟩;omega⟩;rcases he _ hq with⟨_,h2⟩|⟨_,h2⟩
 ·replace h2:Ca ms' ⟨an,al⟩+1<=Ca ms' ⟨an,al⟩:=h2;omega
 have h3:Ca ms' ⟨an,al⟩+1<Ca ms' ⟨an,al⟩+1:=h'.hg _ h2;omega
def S6 {ms ms':List Ab}{cl cl':List Ah}(h:CE ms cl)(h':CE ms' cl')(he:∀d,B6 ms cl d↔B6 ms' cl' d):ms=ms'/\cl=cl':=by
 have hmk:∀a,Ca ms a=Ca ms' a:=λa=>Int.le_antisymm (Lj h h' (λd=>(he d).1) a) (Lj h' h (λd=>(he d).2) a)
 have hsub:∀{ms ms':List Ab},ms.Pairwise BI->(∀m∈ms,1<=m.count)->ms'.Pairwise BI->(∀a,Ca ms a=Ca ms' a)->∀m∈ms,m∈ms':=by
  intro ms ms' h1 h2 h3 h4 m hm;have e:=EP h1 hm;have p:=h2 m hm;obtain⟨x,hx,ha,hc⟩:=FM (ms:=ms') (a:=m.d.a) (by rw[<-h4];omega);have:x=m:=Ab.eta ha (by rw[hc,<-h4,e])
  exact this▸hx
 have e1:ms=ms':=S4 h.hm h'.hm λm=>⟨hsub h.hm h.hp h'.hm hmk m,hsub h'.hm h'.hp h.hm (λa=>(hmk a).symm) m⟩
 refine⟨e1,S5 h.hc h'.hc ?_⟩;subst e1;have hs:∀{cl cl':List Ah},CE ms cl->CE ms cl'->(∀d,B6 ms cl d->B6 ms cl' d)->∀d∈cl,d∈cl':=by
  intro cl cl' h h' he d hd;have hg:=h.hg d hd;have hp:=h.pos d.a;rcases he d (.inr ⟨by omega,hd⟩)with⟨_,h2⟩|⟨_,h2⟩
  ·omega
  exact h2
 exact λd=>⟨hs h h' (λd=>(he d).1) d,hs h' h (λd=>(he d).2) d⟩
def Ex {α : Type} {r : α -> α -> Prop} (tr : ∀ a b c, r a b -> r b c -> r a c) {l : List α} (h : ∀ i x y, l[i]? = some x -> l[i + 1]? = some y -> r x y) : l.Pairwise r := by
  induction l with
  | nil => exact List.Pairwise.nil
  | cons a l ih =>
    have hl := ih λi x y h1 h2 => h (i + 1) x y (by simpa using h1) (by simpa using h2)
    refine List.pairwise_cons.2 ⟨?_, hl⟩;cases l with
    | nil => simp
    | cons b l =>
      have hab := h 0 a b rfl rfl;intro x hx;rcases List.mem_cons.1 hx with rfl | hx
      · exact hab
      exact tr _ _ _ hab ((List.pairwise_cons.1 hl).1 x hx)
def Dh {α:Type}{r:α->α->Prop}{l:List α}(h:l.Pairwise r){i j:Nat}{x y:α}(hij:i<j)(hx:l[i]? =some x)(hy:l[j]? =some y):r x y:=by
 obtain⟨hi,rfl⟩:=List.getElem?_eq_some_iff.1 hx;obtain⟨hj,rfl⟩:=List.getElem?_eq_some_iff.1 hy;exact List.pairwise_iff_getElem.1 h i j hi hj hij
def EO.canon {ms:List Ab}{cl:List Ah}(h:EO ms cl):CE ms cl:=by
 refine⟨Ex (r:=BI) (λ_ _ _=>CR) λi x y hx hy=> ?_,λm hm=>(h.may hm).2.2.1,Ex (r:=Cx) (λ_ _ _=>Ff) λi x y hx hy=> ?_,λd hd=> ?_⟩
 ·exact((h.2.2.1 (i+1)) y hy).2 Zo x hx
 ·exact((h.2.2.2 (i+1)) y hy).2.1 Zo x hx
 obtain⟨j,hj,rfl⟩:=AaI hd;exact(h.2.2.2 j _ (List.getElem?_eq_getElem hj)).2.2
def CE.can {ms:List Ab}{cl:List Ah}(h:CE ms cl)(h1:ms.length<=64)(h2:cl.length<=64)(h3:∀m∈ms,AD m.d)(h4:∀d∈cl,AD d):EO ms cl:=by
 refine⟨h1,h2,λi m hm=>⟨h3 m (Aan hm),λhi x hx=>Dh h.hm Zo hx hm⟩,λi d hd=>⟨h4 d (Aan hd),λhi x hx=>Dh h.hc Zo hx hd,h.hg d (Aan hd)⟩⟩
def CE.may {ms:List Ab}{cl:List Ah}(h:CE ms cl)(hd:∀d,B6 ms cl d->AD d):(∀m∈ms,AD m.d)/\∀d∈cl,AD d:=by
 refine⟨λm hm=>hd _ (.inl ⟨h.hp m hm,?_⟩),λd hd'=>hd _ (.inr ⟨?_,hd'⟩)⟩
 ·rw[EP h.hm hm];exact Int.le_refl _
 have:=h.hg d hd';have:=h.pos d.a;omega
def JN (M:List Ab)(D:List Ah)(d:Ah):Prop:=1<=d.count/\((∃m∈M,m.d.a=d.a/\d.count<=m.count)\/d∈D)
def CE.raw {ms:List Ab}{cl:List Ah}(h:CE ms cl)(d:Ah):B6 ms cl d↔JN ms cl d:=by
 constructor
 ·rintro(⟨h1,h2⟩|⟨h1,h2⟩)
  ·obtain⟨m,hm,ha,hc⟩:=FM (ms:=ms) (a:=d.a) Zo;exact⟨h1,.inl ⟨m,hm,ha,by omega⟩⟩
  exact⟨h1,.inr h2⟩
 rintro⟨h1,⟨m,hm,ha,hc⟩|h2⟩
 ·refine .inl ⟨h1,?_⟩;rw[<-ha,EP h.hm hm];exact hc
 exact .inr ⟨h1,h2⟩
def CE.of_raw {ms M:List Ab}{cl D:List Ah}(h:CE ms cl)(hr:∀d,JN ms cl d↔JN M D d):∀d,B6 ms cl d↔JN M D d:=λd=>(h.raw d).trans (hr d)
def TT (a b:Ah):Bool:= !decide (Cx b a)
def Bh (l:List Ah):List Ah:=l.mergeSort TT
def S7 (a b c:Ah)(h1:TT a b=true)(h2:TT b c=true):TT a c=true:=by
 simp only[TT,AaH,decide_eq_false_iff_not]at*;unfold Cx at*;omega
def S8 (a b:Ah):(TT a b||TT b a)=true:=by
 simp only[TT,Abp,AaH,decide_eq_false_iff_not];unfold Cx;omega
def EQ {l:List Ah}{d:Ah}:d∈Bh l↔d∈l:=List.mem_mergeSort
def Lk (l:List Ah):(Bh l).Pairwise (λa b=>¬Cx b a):=by
 have:=List.pairwise_mergeSort (le:=TT) S7 S8 l
 exact this.imp λh=>by simpa[TT]using h
def Db (acc:List Ab)(d:Ah):List Ab:=
 match acc.getLast? with
 |some m=>if m.d.a=d.a then acc.dropLast++[⟨m.node,m.life,d.count⟩]else acc++[d.m]
 |none=>[d.m]
def C0 (l:List Ah):List Ab:=l.foldl Db []
def JO (acc:List Ab)(m:Ab)(d:Ah):Db (acc++[m]) d=if m.d.a=d.a then acc++[⟨m.node,m.life,d.count⟩]else acc++[m]++[d.m]:=by
 unfold Db;rw[List.getLast?_append];simp
def Ll (d:Ah):Db [] d=[d.m]:=rfl
structure GB (acc:List Ab)(l:List Ah):Prop where
 hm:acc.Pairwise BI
 hp:∀m∈acc,1<=m.count
 hl:∀m,acc.getLast? =some m->l.getLast? =some m.d
 he:acc=[]↔l=[]
 hr:∀d:Ah,1<=d.count->((∃m∈acc,m.d.a=d.a/\d.count<=m.count)↔∃x∈l,x.a=d.a/\d.count<=x.count)
def GB.step {acc:List Ab}{l:List Ah}{d:Ah}(h:GB acc l)(hd:1<=d.count)(hle:∀x∈l,¬Cx d x):GB (Db acc d) (l++[d]):=by
 rcases List.eq_nil_or_concat acc with rfl|⟨ls,m,rfl⟩
 ·have:=h.he.1 rfl;subst this
  rw[Ll];refine⟨by simp,by simpa using hd,by simp,by simp,λe he=> ?_⟩;simp
 rw[List.concat_eq_append]at h⊢;have hlast:=h.hl m Zs;have hml:m.d∈l:=List.mem_of_getLast? hlast;have hmd:=hle _ hml;have hm:=h.hm;rw[AaS]at hm;have hp:=h.hp;rw[JO];by_cases ha:m.d.a=d.a
 ·rw[if_pos ha];have hc:m.count<=d.count:=by
   simp only[Ab.d,Ah.a,AZ.mk.injEq]at ha;simp only[Ab.d,Cx]at hmd;omega
  refine⟨List.pairwise_append.2 ⟨hm.1,by simp,λx hx y hy=> ?_⟩,λx hx=> ?_,λx hx=> ?_,by simp,λe he=> ?_⟩
  ·simp only[Aah]at hy;subst hy;exact(Li (a:=m) rfl).1 (hm.2.2 x hx m Zs)
  ·rcases List.mem_append.1 hx with h2|h2
   ·exact hp x (by simp[h2])
   simp only[Aah]at h2;subst h2;exact hd
  ·simp only[List.getLast?_append,List.getLast?_singleton,Option.some_or,Option.some.injEq]at hx⊢;subst hx;simp only[Ab.d,Ah.a,AZ.mk.injEq]at ha⊢;exact Ah.eta ha.1.symm ha.2.symm rfl
  have h0:=h.hr e he;constructor
  ·rintro⟨x,hx,h1,h2⟩;rcases List.mem_append.1 hx with h3|h3
   ·obtain⟨y,hy,h4⟩:=h0.1 ⟨x,by simp[h3],h1,h2⟩;exact⟨y,by simp[hy],h4⟩
   simp only[Aah]at h3;subst h3;exact⟨d,by simp,ha▸h1,h2⟩
  rintro⟨x,hx,h1,h2⟩;rcases List.mem_append.1 hx with h3|h3
  ·obtain⟨y,hy,h4,h5⟩:=h0.2 ⟨x,h3,h1,h2⟩;rcases List.mem_append.1 hy with h6|h6
   ·exact⟨y,by simp[h6],h4,h5⟩
   simp only[Aah]at h6;subst h6;exact⟨_,AaR _ (List.mem_singleton.2 rfl),h4,Int.le_trans h5 hc⟩
  simp only[Aah]at h3;subst h3;exact⟨_,AaR _ (List.mem_singleton.2 rfl),ha.trans h1,h2⟩
 rw[if_neg ha];have hlt:BI m d.m:=by
  simp only[Ab.d,Ah.a,AZ.mk.injEq]at ha;simp only[Ab.d,Cx]at hmd;simp only[BI];omega
 refine⟨List.pairwise_append.2 ⟨h.hm,by simp,λx hx y hy=> ?_⟩,λx hx=> ?_,λx hx=> ?_,by simp,λe he=> ?_⟩
 ·simp only[Aah]at hy;subst hy;rcases List.mem_append.1 hx with h2|h2
  ·exact CR (hm.2.2 x h2 m Zs) hlt
  simp only[Aah]at h2;subst h2;exact hlt
 ·rcases List.mem_append.1 hx with h2|h2
  ·exact hp x h2
  simp only[Aah]at h2;subst h2;exact hd
 ·simp only[List.getLast?_append,List.getLast?_singleton,Option.some_or,Option.some.injEq]at hx⊢;subst hx;rfl
 have h0:=h.hr e he;constructor
 ·rintro⟨x,hx,h1,h2⟩;rcases List.mem_append.1 hx with h3|h3
  ·obtain⟨y,hy,h4⟩:=h0.1 ⟨x,h3,h1,h2⟩;exact⟨y,by simp[hy],h4⟩
  simp only[Aah]at h3;subst h3;exact⟨d,by simp,h1,h2⟩
 rintro⟨x,hx,h1,h2⟩;rcases List.mem_append.1 hx with h3|h3
 ·obtain⟨y,hy,h4⟩:=h0.2 ⟨x,h3,h1,h2⟩;exact⟨y,AaQ _ hy,h4⟩
 simp only[Aah]at h3;subst h3;exact⟨x.m,AaR _ Zs,h1,h2⟩
def GB.all {l : List Ah} (hp : ∀ d ∈ l, 1 <= d.count) (hs : l.Pairwise (λa b => ¬ Cx b a)) : GB (C0 l) l := by
  have key : ∀ (r l : List Ah) (acc : List Ab), GB acc l -> (∀ d ∈ r, 1 <= d.count) -> (l ++ r).Pairwise (λa b => ¬ Cx b a) -> GB (r.foldl Db acc) (l ++ r) := by
    intro r;induction r with
    | nil => intro l acc h _ _; simpa using h
    | cons d r ih =>
      intro l acc h h1 h2;have := ih (l ++ [d]) (Db acc d) (h.step (h1 d Zs) λx hx => (List.pairwise_append.1 h2).2.2 x hx d Zs) (λx hx => h1 x (by simp [hx])) (by simpa using h2);simpa using this
  have h := key l [] [] ⟨List.Pairwise.nil, by simp, by simp, by simp, by simp⟩ hp (by simpa using hs);rw [Aay] at h;exact h
def setM :List Ab->Ah->List Ab
 |[],d=>[d.m]
 |m::l,d=>if m.d.a=d.a then⟨m.node,m.life,d.count⟩::l else if BI d.m m then d.m::m::l else m::setM l d
def E0 {l : List Ab} {d : Ah} {x : Ab} (h : x ∈ setM l d) : x = d.m \/ x ∈ l := by
  induction l with
  | nil => simp [setM] at h; exact .inl h
  | cons m l ih =>
    rw [setM] at h;split at h
    · rename_i ha;rcases List.mem_cons.1 h with rfl | h
      · exact .inl (Ab.eta ha rfl)
      exact .inr (by simp [h])
    split at h
    · rcases List.mem_cons.1 h with rfl | h
      · exact .inl rfl
      exact .inr h
    rcases List.mem_cons.1 h with rfl | h
    · exact .inr Zs
    rcases ih h with h | h
    · exact .inl h
    exact .inr (by simp [h])
def E1 {l : List Ab} {d : Ah} (h : l.Pairwise BI) : (setM l d).Pairwise BI := by
  induction l with
  | nil => simp [setM]
  | cons m l ih =>
    rw [Aaw] at h;rw [setM];split
    · exact List.pairwise_cons.2 ⟨λx hx => (MI (a := m) rfl).1 (h.1 x hx), h.2⟩
    rename_i ha;split
    · rename_i hlt;refine List.pairwise_cons.2 ⟨λx hx => ?_, List.pairwise_cons.2 h⟩;rcases List.mem_cons.1 hx with rfl | hx
      · exact hlt
      exact CR hlt (h.1 x hx)
    rename_i hlt;refine List.pairwise_cons.2 ⟨λx hx => ?_, ih h.2⟩;rcases E0 hx with rfl | hx
    · exact (NG (a := m) (b := d.m) ha).elim id λh2 => absurd h2 hlt
    exact h.1 x hx
def RJ {l : List Ab} {d : Ah} (a : AZ) : Ca (setM l d) a = if d.a = a then d.count else Ca l a := by
  induction l with
  | nil => rw [setM, Fz]
  | cons m l ih =>
    rw [setM];split
    · rename_i ha;rw [Fz, Fz];by_cases h : d.a = a
      · rw [if_pos (show (⟨m.node, m.life, d.count⟩ : Ab).d.a = a from ha.trans h), if_pos h]
      rw [if_neg (show ¬ (⟨m.node, m.life, d.count⟩ : Ab).d.a = a from λe => h (ha.symm.trans e)), if_neg h, if_neg (λe => h (ha.symm.trans e))]
    rename_i ha;split
    · rw [Fz]
    rw [Fz, ih, Fz];by_cases h : d.a = a
    · rw [if_pos h, if_neg (λe => ha (e.trans h.symm)), if_pos h]
    rw [if_neg h, if_neg h]
def Ch (c:List Ab×List Ah)(d:Ah):List Ab×List Ah:=
 if d.count<=Ca c.1 d.a then c else if Ca c.1 d.a+1<d.count then(c.1,c.2++[d])else(setM c.1 d,c.2)
def O1 {ms:List Ab}{cl:List Ah}{d:Ah}(h:CE ms cl)(hd:1<=d.count)(hlt:∀x∈cl,Cx x d):
  CE (Ch (ms,cl) d).1 (Ch (ms,cl) d).2/\(∀x,B6 (Ch (ms,cl) d).1 (Ch (ms,cl) d).2 x↔B6 ms cl x\/x=d)/\(∀x∈(Ch (ms,cl) d).2,x∈cl\/x=d):=by
 unfold Ch;simp only;have hpos:=h.pos d.a;split
 ·rename_i h1;refine⟨h,λx=>⟨.inl,?_⟩,λx hx=> .inl hx⟩;rintro(h2|rfl)
  ·exact h2
  exact .inl ⟨hd,h1⟩
 split
 ·rename_i h1 h2;refine⟨⟨h.hm,h.hp,List.pairwise_append.2 ⟨h.hc,by simp,λx hx y hy=> ?_⟩,λx hx=> ?_⟩,λx=> ?_,λx hx=>by simpa using hx⟩
  ·simp only[Aah]at hy;subst hy;exact hlt x hx
  ·rcases List.mem_append.1 hx with hx|hx
   ·exact h.hg x hx
   simp only[Aah]at hx;subst hx;exact h2
  simp only[B6,Aak,Aah];constructor
  ·rintro(h3|⟨h3,h4|h4⟩)
   ·exact .inl (.inl h3)
   ·exact .inl (.inr ⟨h3,h4⟩)
   exact .inr h4
  rintro((h3|⟨h3,h4⟩)|rfl)
  ·exact .inl h3
  ·exact .inr ⟨h3,.inl h4⟩
  exact .inr ⟨hd,.inr rfl⟩
 rename_i h1 h2;have hc:d.count=Ca ms d.a+1:=by omega
 have hno:∀x∈cl,x.a≠d.a:=λx hx e=>by
  have h3:=h.hg x hx;have h4:=hlt x hx;rw[e]at h3;simp only[Ah.a,AZ.mk.injEq]at e;unfold Cx at h4;omega
 refine⟨⟨E1 h.hm,λm hm=> ?_,h.hc,λx hx=> ?_⟩,λx=> ?_,λx hx=> .inl hx⟩
 ·rcases E0 hm with rfl|h3
  ·exact hd
  exact h.hp m h3
 ·rw[RJ,if_neg (λe=>hno x hx e.symm)];exact h.hg x hx
 simp only[B6,RJ];by_cases ha:d.a=x.a
 ·rw[if_pos ha];rw[<-ha];constructor
  ·rintro(⟨h3,h4⟩|h3)
   ·by_cases h5:x.count=d.count
    ·right;simp only[Ah.a,AZ.mk.injEq]at ha;exact Ah.eta ha.1.symm ha.2.symm h5
    exact .inl (.inl ⟨h3,by omega⟩)
   exact .inl (.inr h3)
  rintro((⟨h3,h4⟩|h3)|rfl)
  ·exact .inl ⟨h3,by omega⟩
  ·exact .inr h3
  exact .inl ⟨hd,Int.le_refl _⟩
 rw[if_neg ha];constructor
 ·exact .inl
 rintro(h3|rfl)
 ·exact h3
 exact absurd rfl ha
def S9 {l : List Ah} {c : List Ab × List Ah} (h : CE c.1 c.2) (hp : ∀ d ∈ l, 1 <= d.count) (hs : (c.2 ++ l).Pairwise Cx) :
    CE (l.foldl Ch c).1 (l.foldl Ch c).2 /\ (∀ x, B6 (l.foldl Ch c).1 (l.foldl Ch c).2 x ↔ B6 c.1 c.2 x \/ x ∈ l) := by
  induction l generalizing c with
  | nil => exact ⟨h, λx => by simp⟩
  | cons d l ih =>
    have hs' := List.pairwise_append.1 hs;obtain ⟨h1, h2, h3⟩ := O1 (d := d) h (hp d Zs) λx hx => hs'.2.2 x hx d Zs
    have hd := List.pairwise_cons.1 hs'.2.1;obtain ⟨h4, h5⟩ := ih (c := Ch c d) h1 (λx hx => hp x (by simp [hx])) (List.pairwise_append.2 ⟨h1.hc, hd.2, λx hx y hy => by
      rcases h3 x hx with h6 | rfl
      · exact hs'.2.2 x h6 y (by simp [hy])
      exact hd.1 y hy⟩)
    refine ⟨h4, λx => ?_⟩;rw [AaK, h5, h2, Aai, or_assoc]
def compD :List Ah->List Ah
 |[]=>[]
 |[a]=>[a]
 |a::b::l=>if a=b then compD (b::l)else a::compD (b::l)
def Hs {l : List Ah} {d : Ah} : d ∈ compD l ↔ d ∈ l := by
  induction l with
  | nil => simp [compD]
  | cons a l ih =>
    cases l with
    | nil => simp [compD]
    | cons b l =>
      rw [compD];split
      · rename_i h; subst h; rw [ih]; simp
      rw [Aai, ih]; simp
def NH {l : List Ah} (h : l.Pairwise (λa b => ¬ Cx b a)) : (compD l).Pairwise Cx := by
  induction l with
  | nil => simp [compD]
  | cons a l ih =>
    cases l with
    | nil => simp [compD]
    | cons b l =>
      rw [Aaw] at h;rw [compD];split
      · exact ih h.2
      rename_i hab;refine List.pairwise_cons.2 ⟨λx hx => ?_, ih h.2⟩;have hx' := Hs.1 hx;have h1 := h.1 b Zs;have hlt : Cx a b := Decidable.byContradiction λh2 => hab (Ke h2 h1)
      rcases List.mem_cons.1 hx' with rfl | h3
      · exact hlt
      have h4 := (List.pairwise_cons.1 h.2).1 x h3;unfold Cx at *; omega
def Cu (M:List Ab)(D:List Ah):List Ab×List Ah:=(compD (Bh D)).foldl Ch (C0 (Bh (M.map Ab.d)),[])
def H3 {M:List Ab}{D:List Ah}(hM:∀m∈M,1<=m.count)(hD:∀d∈D,1<=d.count):
  CE (Cu M D).1 (Cu M D).2/\∀d,B6 (Cu M D).1 (Cu M D).2 d↔JN M D d:=by
 have hm:=GB.all (l:=Bh (M.map Ab.d)) (λd hd=>by
  obtain⟨m,hm,rfl⟩:=List.mem_map.1 (EQ.1 hd);exact hM m hm) (Lk _)
 have hc:CE (C0 (Bh (M.map Ab.d))) []:=⟨hm.hm,hm.hp,List.Pairwise.nil,by simp⟩
 obtain⟨h1,h2⟩:=S9 (l:=compD (Bh D)) (c:=(C0 (Bh (M.map Ab.d)),[])) hc (λd hd=>hD d (EQ.1 (Hs.1 hd))) (by simpa using NH (Lk D));refine⟨h1,λd=>(h2 d).trans ?_⟩;rw[hc.raw,Hs,EQ];constructor
 ·rintro(⟨h3,h4|h4⟩|h3)
  ·obtain⟨x,hx,h5,h6⟩:=(hm.hr d h3).1 h4;obtain⟨m,hm',rfl⟩:=List.mem_map.1 (EQ.1 hx);exact⟨h3,.inl ⟨m,hm',h5,h6⟩⟩
  ·cases h4
  exact⟨hD d h3,.inr h3⟩
 rintro⟨h3,⟨m,hm',h5,h6⟩|h4⟩
 ·exact .inl ⟨h3,.inl ((hm.hr d h3).2 ⟨m.d,EQ.2 (List.mem_map.2 ⟨m,hm',rfl⟩),h5,h6⟩)⟩
 exact .inr h4
def U2 {M:List Ab}{D:List Ah}{ms:List Ab}{cl:List Ah}(hM:∀m∈M,1<=m.count)(hD:∀d∈D,1<=d.count)
  (h:CE ms cl) (hr:∀d,B6 ms cl d↔JN M D d):Cu M D=(ms,cl):=by
 obtain⟨h1,h2⟩:=H3 hM hD;obtain⟨e1,e2⟩:=S6 h1 h λd=>(h2 d).trans (hr d).symm
 exact Prod.ext e1 e2
def IB (m:Ab)(s:List Ab×Bool)(x:Ab):List Ab×Bool:=
 if x.d.a=m.d.a then(s.1++[⟨x.node,x.life,max x.count m.count⟩],true)else if s.2=false/\BI m x then(s.1++[m]++[x],true)else(s.1++[x],s.2)
def Jo (l:List Ab)(m:Ab):List Ab:=if (l.foldl (IB m) ([],false)).2 then(l.foldl (IB m) ([],false)).1 else(l.foldl (IB m) ([],false)).1++[m]
def maxM :List Ab->Ab->List Ab
 |[],m=>[m]
 |x::t,m=>if x.d.a=m.d.a then⟨x.node,x.life,max x.count m.count⟩::t else if BI m x then m::x::t else x::maxM t m
def RK {l : List Ab} {m : Ab} (h : ∀ x ∈ l, x.d.a ≠ m.d.a) (out : List Ab) : l.foldl (IB m) (out, true) = (out ++ l, true) := by
  induction l generalizing out with
  | nil => simp
  | cons x l ih =>
    rw [AaK, IB, if_neg (h x Zs), if_neg Zs, ih λy hy => h y (by simp [hy])];simp
def U3 {l : List Ab} {m : Ab} (h : l.Pairwise BI) (out : List Ab) :
    (if (l.foldl (IB m) (out, false)).2 then (l.foldl (IB m) (out, false)).1 else (l.foldl (IB m) (out, false)).1 ++ [m]) = out ++ maxM l m := by
  induction l generalizing out with
  | nil => simp [maxM]
  | cons x l ih =>
    rw [Aaw] at h;rw [AaK, maxM];by_cases ha : x.d.a = m.d.a
    · have e : IB m (out, false) x = (out ++ [⟨x.node, x.life, max x.count m.count⟩], true) := by rw [IB, if_pos ha]
      rw [e, if_pos ha, RK λy hy e => H2 (h.1 y hy) (ha.trans e.symm)];simp
    rw [if_neg ha];by_cases hl : BI m x
    · have e : IB m (out, false) x = (out ++ [m] ++ [x], true) := by rw [IB, if_neg ha, if_pos ⟨rfl, hl⟩]
      rw [e, if_pos hl, RK λy hy e => H2 (CR hl (h.1 y hy)) e.symm];simp
    have e : IB m (out, false) x = (out ++ [x], false) := by rw [IB, if_neg ha, if_neg (by simp [hl])]
    rw [e, if_neg hl, ih h.2];simp
def RM {l:List Ab}(h:l.Pairwise BI)(m:Ab):Jo l m=maxM l m:=by
 have:=U3 (m:=m) h []
 simpa[Jo]using this
def O2 {l : List Ab} {m x : Ab} (h : x ∈ maxM l m) : x = m \/ x ∈ l \/ (x.d.a = m.d.a /\ ∃ y ∈ l, y.d.a = m.d.a /\ x.count = max y.count m.count) := by
  induction l with
  | nil => simp [maxM] at h; exact .inl h
  | cons y l ih =>
    rw [maxM] at h;split at h
    · rename_i ha;rcases List.mem_cons.1 h with rfl | h
      · exact .inr (.inr ⟨ha, y, by simp, ha, rfl⟩)
      exact .inr (.inl (by simp [h]))
    split at h
    · rcases List.mem_cons.1 h with rfl | h
      · exact .inl rfl
      exact .inr (.inl h)
    rcases List.mem_cons.1 h with rfl | h
    · exact .inr (.inl Zs)
    rcases ih h with h | h | ⟨h, z, hz, h2⟩
    · exact .inl h
    · exact .inr (.inl (by simp [h]))
    exact .inr (.inr ⟨h, z, by simp [hz], h2⟩)
def JP {l : List Ab} {m : Ab} (h : l.Pairwise BI) : (maxM l m).Pairwise BI := by
  induction l with
  | nil => simp [maxM]
  | cons x l ih =>
    rw [Aaw] at h;rw [maxM];split
    · exact List.pairwise_cons.2 ⟨λy hy => (MI (a := x) rfl).1 (h.1 y hy), h.2⟩
    rename_i ha;split
    · rename_i hlt;refine List.pairwise_cons.2 ⟨λy hy => ?_, List.pairwise_cons.2 h⟩;rcases List.mem_cons.1 hy with rfl | hy
      · exact hlt
      exact CR hlt (h.1 y hy)
    rename_i hlt;have hxm : BI x m := (NG ha).elim id λh2 => absurd h2 hlt
    refine List.pairwise_cons.2 ⟨λy hy => ?_, ih h.2⟩;rcases O2 hy with rfl | hy | ⟨hy, -⟩
    · exact hxm
    · exact h.1 y hy
    exact (Li (c := x) hy).2 hxm
def O3 {l:List Ab}{m:Ab}(h:∀x∈l,1<=x.count)(hm:1<=m.count):∀x∈maxM l m,1<=x.count:=by
 intro x hx;rcases O2 hx with rfl|hx|⟨-,y,hy,-,e⟩
 ·exact hm
 ·exact h x hx
 have:=h y hy;omega
def O4 (l : List Ab) (m : Ab) : (maxM l m).length <= l.length + 1 := by
  induction l with
  | nil => simp [maxM]
  | cons x l ih =>
    rw [maxM];split
    · simp
    split <;> simp <;> omega
def O5 {l : List Ab} {m : Ab} (a : AZ) (c : Int) : (∃ x ∈ maxM l m, x.d.a = a /\ c <= x.count) ↔ (∃ x ∈ l, x.d.a = a /\ c <= x.count) \/ (m.d.a = a /\ c <= m.count) := by
  induction l with
  | nil => simp [maxM]
  | cons x l ih =>
    rw [maxM];split
    · rename_i ha;constructor
      · rintro ⟨y, hy, h1, h2⟩;rcases List.mem_cons.1 hy with rfl | hy
        · simp only at h2;by_cases h3 : c <= x.count
          · exact .inl ⟨x, by simp, h1, h3⟩
          exact .inr ⟨ha ▸ h1, by omega⟩
        exact .inl ⟨y, by simp [hy], h1, h2⟩
      rintro (⟨y, hy, h1, h2⟩ | ⟨h1, h2⟩)
      · rcases List.mem_cons.1 hy with rfl | hy
        · exact ⟨_, AaC .., h1, by simp only; omega⟩
        exact ⟨y, by simp [hy], h1, h2⟩
      exact ⟨_, AaC .., ha.trans h1, by simp only; omega⟩
    split
    · constructor
      · rintro ⟨y, hy, h1, h2⟩;rcases List.mem_cons.1 hy with rfl | hy
        · exact .inr ⟨h1, h2⟩
        exact .inl ⟨y, hy, h1, h2⟩
      rintro (⟨y, hy, h1⟩ | h1)
      · exact ⟨y, Aau _ hy, h1⟩
      exact ⟨m, by simp, h1⟩
    constructor
    · rintro ⟨y, hy, h1, h2⟩;rcases List.mem_cons.1 hy with rfl | hy
      · exact .inl ⟨_, by simp, h1, h2⟩
      rcases ih.1 ⟨y, hy, h1, h2⟩ with ⟨z, hz, h3⟩ | h3
      · exact .inl ⟨z, by simp [hz], h3⟩
      exact .inr h3
    rintro (⟨y, hy, h1⟩ | h1)
    · rcases List.mem_cons.1 hy with rfl | hy
      · exact ⟨_, by simp, h1⟩
      obtain ⟨z, hz, h3⟩ := ih.2 (.inl ⟨y, hy, h1⟩);exact ⟨z, by simp [hz], h3⟩
    obtain ⟨z, hz, h3⟩ := ih.2 (.inr h1);exact ⟨z, by simp [hz], h3⟩
structure G8 (l M:List Ab):Prop where
 hm:l.Pairwise BI
 hp:∀m∈l,1<=m.count
 hl:l.length<=M.length
 hr:∀a c,(∃x∈l,x.d.a=a/\c<=x.count)↔∃x∈M,x.d.a=a/\c<=x.count
def G8.nil :G8 [] []:=⟨List.Pairwise.nil,by simp,by simp,by simp⟩
def G8.step {l M:List Ab}{m:Ab}(h:G8 l M)(hm:1<=m.count):G8 (Jo l m) (M++[m]):=by
 rw[RM h.hm];refine⟨JP h.hm,O3 h.hp hm,by have:=O4 l m;have:=h.hl;simp;omega,λa c=> ?_⟩;rw[O5,h.hr];simp only[Aak,Aah,or_and_right,exists_or,exists_eq_left]
def IC (d:Ah)(s:List Ah×Bool)(x:Ah):List Ah×Bool:=
 if (s.2=false/\x≠d)/\Cx d x then(s.1++[d]++[x],true)else(s.1++[x],s.2||decide (x=d))
def JX (l:List Ah)(d:Ah):List Ah:=if (l.foldl (IC d) ([],false)).2 then(l.foldl (IC d) ([],false)).1 else(l.foldl (IC d) ([],false)).1++[d]
def insD :List Ah->Ah->List Ah
 |[],d=>[d]
 |x::t,d=>if x=d then x::t else if Cx d x then d::x::t else x::insD t d
def RN (l:List Ah)(d:Ah)(out:List Ah):l.foldl (IC d) (out,true)=(out++l,true):=by
 induction l generalizing out with
 |nil=>simp
 |cons x l ih=>rw[AaK,IC,if_neg Zs,Bool.true_or,ih];simp
def U4 (l : List Ah) (d : Ah) (out : List Ah) :
    (if (l.foldl (IC d) (out, false)).2 then (l.foldl (IC d) (out, false)).1 else (l.foldl (IC d) (out, false)).1 ++ [d]) = out ++ insD l d := by
  induction l generalizing out with
  | nil => simp [insD]
  | cons x l ih =>
    rw [AaK, insD];by_cases he : x = d
    · have e : IC d (out, false) x = (out ++ [x], true) := by rw [IC, if_neg (by simp [he]), decide_eq_true he, Bool.or_true]
      rw [e, if_pos he, RN]; simp
    rw [if_neg he];by_cases hl : Cx d x
    · have e : IC d (out, false) x = (out ++ [d] ++ [x], true) := by rw [IC, if_pos ⟨⟨rfl, he⟩, hl⟩]
      rw [e, if_pos hl, RN]; simp
    have e : IC d (out, false) x = (out ++ [x], false) := by rw [IC, if_neg (by simp [hl]), decide_eq_false he, Bool.or_false]
    rw [e, if_neg hl, ih]; simp
def Xh (l:List Ah)(d:Ah):JX l d=insD l d:=by
 have:=U4 l d []
 simpa[JX]using this
def O6 {l : List Ah} {d x : Ah} : x ∈ insD l d ↔ x ∈ l \/ x = d := by
  induction l with
  | nil => simp [insD]
  | cons y l ih =>
    rw [insD];split
    · rename_i h; subst h; simp only [Aai]; constructor
      · exact .inl
      rintro (h | rfl)
      · exact h
      exact .inl rfl
    split
    · simp only [Aai]; constructor
      · rintro (h | h)
        · exact .inr h
        exact .inl h
      rintro (h | h)
      · exact .inr h
      exact .inl h
    simp only [Aai, ih, or_assoc]
def O7 {l : List Ah} {d : Ah} (h : l.Pairwise Cx) : (insD l d).Pairwise Cx := by
  induction l with
  | nil => simp [insD]
  | cons x l ih =>
    have h0 := h;rw [Aaw] at h;rw [insD];split
    · exact h0
    rename_i he;split
    · rename_i hlt;refine List.pairwise_cons.2 ⟨λy hy => ?_, h0⟩;rcases List.mem_cons.1 hy with rfl | hy
      · exact hlt
      exact Ff hlt (h.1 y hy)
    rename_i hlt;refine List.pairwise_cons.2 ⟨λy hy => ?_, ih h.2⟩;rcases O6.1 hy with hy | rfl
    · exact h.1 y hy
    exact Decidable.byContradiction λh2 => he (Ke h2 hlt)
def U5 (l : List Ah) (d : Ah) : (insD l d).length <= l.length + 1 := by
  induction l with
  | nil => simp [insD]
  | cons x l ih =>
    rw [insD];split
    · simp
    split <;> simp <;> omega
structure G9 (l D:List Ah):Prop where
 hs:l.Pairwise Cx
 hl:l.length<=D.length
 hr:∀x,x∈l↔x∈D
def G9.nil :G9 [] []:=⟨List.Pairwise.nil,by simp,by simp⟩
def G9.step {l D:List Ah}(h:G9 l D)(d:Ah):G9 (JX l d) (D++[d]):=by
 rw[Xh];exact⟨O7 h.hs,by have:=U5 l d;have:=h.hl;simp;omega,λx=>by rw[O6,h.hr];simp⟩
structure SS where
 ms:List Ab
 left:List Ah
 again:Bool
def RO (s:SS)(d:Ah):SS:=
 if d.count<=Ca s.ms d.a then s else if d.count=Ca s.ms d.a+1 then⟨Jo s.ms d.m,s.left,true⟩else⟨s.ms,s.left++[d],s.again⟩
structure Lm (M:List Ab)(D:List Ah)(ms:List Ab)(ds:List Ah):Prop where
 hm:ms.Pairwise BI
 hp:∀m∈ms,1<=m.count
 hs:ds.Pairwise Cx
 hd:∀d∈ds,1<=d.count
 hl:ms.length+ds.length<=M.length+D.length
 hr:∀d,JN ms ds d↔JN M D d
structure Ha (ms0:List Ab)(ds:List Ah)(s:SS)(i:Nat):Prop where
 hm:s.ms.Pairwise BI
 hp:∀m∈s.ms,1<=m.count
 hsub:s.left.Sublist (ds.take i)
 hlen:s.ms.length+s.left.length<=ms0.length+(ds.take i).length
 hr:∀d,JN s.ms s.left d↔JN ms0 (ds.take i) d
 hag:s.again=true->s.left.length<(ds.take i).length
 hno:s.again=false->∀d∈s.left,Ca s.ms d.a+1<d.count
def Ha.zero {ms:List Ab}(ds:List Ah)(hm:ms.Pairwise BI)(hp:∀m∈ms,1<=m.count):Ha ms ds ⟨ms,[],false⟩ 0:=
 ⟨hm,hp,by simp,by simp,by simp,by simp,by simp⟩
def RP {ms:List Ab}(h:ms.Pairwise BI){a:AZ}{c:Int}(hc:1<=c):(∃m∈ms,m.d.a=a/\c<=m.count)↔c<=Ca ms a:=by
 constructor
 ·rintro⟨m,hm,rfl,h2⟩;rw[EP h hm];exact h2
 intro h2;obtain⟨m,hm,h3,h4⟩:=FM (ms:=ms) (a:=a) Zo;exact⟨m,hm,h3,by omega⟩
def Ha.step {ms0:List Ab}{ds:List Ah}{s:SS}{i:Nat}{d:Ah}(h:Ha ms0 ds s i)(hd:ds[i]? =some d)(hc:1<=d.count):Ha ms0 ds (RO s d) (i+1):=by
 obtain⟨hi,rfl⟩:=List.getElem?_eq_some_iff.1 hd;have ht:=AaJ hi;have hl:(ds.take (i+1)).length=(ds.take i).length+1:=by rw[ht,Aab,Aa2]
 have hraw:∀x,JN ms0 (ds.take (i+1)) x↔JN ms0 (ds.take i) x\/x=ds[i]:=λx=>by
  rw[ht];simp only[JN,Aak,Aah];constructor
  ·rintro⟨h1,h2|h2|h2⟩
   ·exact .inl ⟨h1,.inl h2⟩
   ·exact .inl ⟨h1,.inr h2⟩
   exact .inr h2
  rintro(⟨h1,h2|h2⟩|rfl)
  ·exact⟨h1,.inl h2⟩
  ·exact⟨h1,.inr (.inl h2)⟩
  exact⟨hc,.inr (.inr rfl)⟩
 unfold RO;split
 ·rename_i h1;refine⟨h.hm,h.hp,ht▸h.hsub.trans (List.sublist_append_left ..),by have:=h.hlen;omega,λx=> ?_,λe=>by have:=h.hag e;omega,h.hno⟩;rw[hraw,<-h.hr];constructor
  ·exact .inl
  rintro(h2|rfl)
  ·exact h2
  exact⟨hc,.inl ((RP h.hm hc).2 h1)⟩
 split
 ·rename_i h1 h2;rw[RM h.hm];refine⟨JP h.hm,O3 h.hp hc,ht▸h.hsub.trans (List.sublist_append_left ..),by have:=O4 s.ms ds[i].m;have:=h.hlen;simp only;omega,λx=> ?_,λ_=>by have:=h.hsub.length_le;simp only;omega,λe=>by cases e⟩;rw[hraw,<-h.hr];simp only[JN,O5];constructor
  ·rintro⟨h3,(h4|⟨h4,h5⟩)|h4⟩
   ·exact .inl ⟨h3,.inl h4⟩
   ·replace h4:ds[i].a=x.a:=h4;replace h5:x.count<=ds[i].count:=h5;by_cases h6:x.count=ds[i].count
    ·right;simp only[Ah.a,AZ.mk.injEq]at h4;exact Ah.eta h4.1.symm h4.2.symm h6
    exact .inl ⟨h3,.inl ((RP h.hm h3).2 (by rw[<-h4];omega))⟩
   exact .inl ⟨h3,.inr h4⟩
  rintro(⟨h3,h4|h4⟩|rfl)
  ·exact⟨h3,.inl (.inl h4)⟩
  ·exact⟨h3,.inr h4⟩
  exact⟨hc,.inl (.inr ⟨rfl,Int.le_refl _⟩)⟩
 rename_i h1 h2;refine⟨h.hm,h.hp,ht▸h.hsub.append (List.Sublist.refl _),by have:=h.hlen;rw[hl,Aab,Aa2];simp only;omega,λx=> ?_,λe=>by have:=h.hag e;rw[hl,Aab,Aa2];omega,λe x hx=> ?_⟩
 ·rw[hraw,<-h.hr];simp only[JN,Aak,Aah];constructor
  ·rintro⟨h3,h4|h4|h4⟩
   ·exact .inl ⟨h3,.inl h4⟩
   ·exact .inl ⟨h3,.inr h4⟩
   exact .inr h4
  rintro(⟨h3,h4|h4⟩|rfl)
  ·exact⟨h3,.inl h4⟩
  ·exact⟨h3,.inr (.inl h4)⟩
  exact⟨hc,.inr (.inr rfl)⟩
 rcases List.mem_append.1 hx with hx|hx
 ·exact h.hno e x hx
 simp only[Aah]at hx;subst hx;simp only;omega
def Lm.round {M ms:List Ab}{D ds:List Ah}{s:SS}(h:Lm M D ms ds)(hr:Ha ms ds s ds.length):Lm M D s.ms s.left:=by
 have hs:=hr.hsub;rw[Aap]at hs;refine⟨hr.hm,hr.hp,h.hs.sublist hs,λd hd=>h.hd d (hs.subset hd),by have h1:=hr.hlen;have:=h.hl;rw[Aap]at h1;omega,λd=> ?_⟩;rw[hr.hr,Aap];exact h.hr d
def Lm.done {M ms:List Ab}{D ds:List Ah}(h:Lm M D ms ds)(hM:∀m∈M,1<=m.count)(hD:∀d∈D,1<=d.count)(hn:∀d∈ds,Ca ms d.a+1<d.count):Cu M D=(ms,ds):=
 have hc:CE ms ds:=⟨h.hm,h.hp,h.hs,hn⟩
 U2 hM hD hc (hc.of_raw h.hr)
def Xi (ms:List Ab)(cl:List Ah)(ms':List Ab)(cl':List Ah):Prop:=(∀m∈ms,m.count<=Ca ms' m.d.a)/\∀d∈cl,B6 ms' cl' d
instance (ms :List Ab)(cl:List Ah)(ms':List Ab)(cl':List Ah):Decidable (Xi ms cl ms' cl'):=by unfold Xi;infer_instance
def O8 {ms ms':List Ab}{cl cl':List Ah}(h:CE ms cl)(h':CE ms' cl'):Xi ms cl ms' cl'↔∀d,B6 ms cl d->B6 ms' cl' d:=by
 constructor
 ·rintro⟨h1,h2⟩ d (⟨h3,h4⟩|⟨h3,h4⟩)
  ·obtain⟨m,hm,ha,hc⟩:=FM (ms:=ms) (a:=d.a) Zo;have:=h1 m hm
   rw[ha]at this;exact .inl ⟨h3,by omega⟩
  exact h2 d h4
 intro he;refine⟨λm hm=> ?_,λd hd=>he d (.inr ⟨?_,hd⟩)⟩
 ·have:=Lj h h' he m.d.a
  rw[EP h.hm hm]at this;exact this
 have:=h.hg d hd;have:=h.pos d.a;omega
def CE.next {ms:List Ab}{cl:List Ah}(h:CE ms cl){d:Ah}(hd:d.count=Ca ms d.a+1):¬d∈cl:=λhm=>by have:=h.hg d hm;omega
def U6 {ms:List Ab}(h:∀i,Yi ms i)(a:AZ):0<=Ca ms a/\Ca ms a<=1099511627776:=by
 by_cases hz:Ca ms a=0
 ·omega
 obtain⟨m,hm,-,e⟩:=FM hz;obtain⟨j,hj,rfl⟩:=AaI hm;have:=(h j _ (List.getElem?_eq_getElem hj)).1
 simp only[AD,Ab.d]at this;omega
def NI {ms:List Ab}{i:Nat}(h:∀j,j<i->Yi ms j)(hi:ms.length<=i):∀j,Yi ms j:=λj m hm=>by
 obtain⟨hj,-⟩:=List.getElem?_eq_some_iff.1 hm;exact h j Zo m hm
def Xj {ms:List Ab}{cl:List Ah}{i:Nat}(h:∀j,j<i->S3 ms cl j)(hi:cl.length<=i):∀j,S3 ms cl j:=λj d hd=>by
 obtain⟨hj,-⟩:=List.getElem?_eq_some_iff.1 hd;exact h j Zo d hd
def Ej {p:Nat->Prop}{i:Nat}(h:∀j,j<i->p j)(hi:p i):∀j,j<i+1->p j:=λj hj=>by
 by_cases e:j=i
 ·subst e;exact hi
 exact h j Zo
def ID {i:Nat}(h:0<i):(((i:Nat):Int)-1).toNat=i-1:=by omega
def jc {ms:List Ab}{i:Nat}{m x:Ab}(hm:ms[i]? =some m)(hi:0<i)(hx:ms[i-1]? =some x)(h:¬BI x m):¬Yi ms i:=λho=>h ((ho m hm).2 hi x hx)
def j6 {ms:List Ab}{i:Nat}{m:Ab}(hm:ms[i]? =some m)(h1:AD m.d)(h2:0<i->∀x,ms[i-1]? =some x->BI x m):Yi ms i:=λm' hm'=>by
 rw[hm]at hm';cases hm';exact⟨h1,h2⟩
def j7 {ms:List Ab}{cl:List Ah}{i:Nat}{d:Ah}(hd:cl[i]? =some d)(h1:AD d)(h2:0<i->∀x,cl[i-1]? =some x->Cx x d)(h3:Ca ms d.a+1<d.count):S3 ms cl i:=λd' hd'=>by
 rw[hd]at hd';cases hd';exact⟨h1,h2,h3⟩
def U7 {α:Type}{xs:List α}{i:Nat}{x y:α}{p:α->Prop}(hx:xs[i]? =some x)(h:p x)(hy:xs[i]? =some y):p y:=by rw[hx]at hy;cases hy;exact h
def RQ {x m:Ab}(h:0<=By ⟨x.node,x.life,0⟩ ⟨m.node,m.life,0⟩):¬BI x m:=U1.1 h
def O9 {x m:Ab}(h:By ⟨x.node,x.life,0⟩ ⟨m.node,m.life,0⟩<0):BI x m:=Decidable.byContradiction λh2=>absurd (U1.2 h2) (Int.not_le.2 h)
attribute [local irreducible] AD DP Cx BI By Ca B6 X
def U8 (am:Option Addr)(ms:List Ab)(cm:Nat)(ac:Option Addr)(cl:List Ah)(cc:Nat)(w:World)(hs:Ax w am ms)(ht:Ax w ac cl)(hl:ms.length<=4294967295)(hl2:cl.length<=4294967295):
  Calls prog 79 #[.agg #[.slice am ms.length cm,.slice ac cl.length cc]] w (AU (λv w'=>v= .bool (BL ms cl)/\As w w')):=by
 refine kD (n:=88) func79 ?_;refine kQ ?_;intro a3 aI au a0 aD;have:w.heap.size<=a3:=au;clear au;have K0:=(aD:As w _);refine jG ?_;refine kE (Er rfl rfl rfl) ?_;refine jF ?_ ?_
 ·intro hc17;refine kL func79 ?_;exact⟨_,rfl,by rw[Hr (λh=>by have:=h.1;have:=h.2.1;omega)],K0⟩
 intro hc17;have hl64:ms.length<=64:=by omega
 have hl65:cl.length<=64:=by omega
 refine jG ?_;refine Ai.loop (ι:=Nat) (λi ρ' w'=>Holds ρ' [(1,jp a3),(19,.slice am ms.length cm),(20,.int .i64 ((ms.length:Nat):Int)),(21,.int .i64 ((i:Nat):Int))]/\As w w'/\(AC w' a3 [.slice am ms.length cm,.slice ac cl.length cc] 31)/\(i<=ms.length)/\(∀j,j<i->Yi ms j)) (λi=>ms.length-i) 0 ?_ ?_
 ·refine⟨⟨rfl,rfl,rfl,rfl,trivial⟩,K0,a0,?_,?_⟩
  ·omega
  exact λj hj=>absurd hj (Abh j)
 clear a0;clear K0;rintro i aJ aK ⟨av,K0,a0,hi,hk⟩ ih1;obtain⟨ρ₀,rfl⟩:=av.ex;clear av;refine kK ?_ ?_
 ·intro hc22;refine FU ?_;obtain⟨aL,aM,m,hm,aE,a5⟩:=hs.eo i;have hc_12_lt:=a5.lt;refine jV (AY underlying28 ty46 rfl rfl aE Zl) ?_;replace a5:=a5.ext K0;refine kP ?_;intro aN aO a6 a2 aw;have aP:=Ak a0.lt a6;have aQ:=Ak a5.lt a6;have:=Aaa K0.size a6;clear a6;refine jG ?_;refine jR<|jS a2 ?_;intro aR a2 ax;refine jG ?_;refine kS (H0 m _) ?_;rintro _ aS ⟨rfl,ab⟩;refine kS (MH (Ab.d m) _) ?_;rintro _ aT ⟨rfl,ad⟩;refine jG ?_;replace a0:=(((a0.ext aw).kp ax).ext ab).ext ad;replace K0:=(((K0.ext aw).n1 ax).ext ab).ext ad;replace a2:=(a2.ext ab).ext ad;refine jF ?_ ?_
  ·intro hc29;refine kL func79 ?_;exact⟨_,rfl,by rw[Hr (λh=>hc29 (h.2.2.1 i m hm).1)],K0⟩
  intro hc29;refine kK ?_ ?_
  ·intro hc31;refine jG ?_;refine jV (B8 rfl rfl Zo Zo) ?_;obtain⟨aU,aV,x,hx,aF,a7⟩:=hs.el (i:=(((i:Nat):Int)-1).toNat) Zl;have hc_31_lt:=a7.lt;refine jV (HO underlying28 ty46 rfl rfl aF Zo Zl) ?_;replace a7:=a7.ext K0;refine kP ?_;intro aW aX a4 ay ae;have aY:=Ak a0.lt a4;have aZ:=Ak a2.lt a4;have b0:=Ak a7.lt a4;have:=Aaa K0.size a4;clear a4;refine jR<|jS ay ?_;intro b1 ay af;have hxm:=(hk _ Zo x hx).1;refine jG ?_;refine jV (AO (cells:=#[.int .i64 x.node,.int .i64 x.life,.int .i64 0]) Zk) ?_;replace a2:=(a2.ext ae).kp af;refine jG ?_;refine jV (AO (cells:=#[.int .i64 m.node,.int .i64 m.life,.int .i64 0]) Zk) ?_;refine kS (Qs (⟨x.node,x.life,0⟩:Ah) (⟨m.node,m.life,0⟩:Ah) _ (AD.z hxm) (AD.z hc29)) ?_;rintro _ b2 ⟨rfl,az⟩;refine jG ?_;replace a0:=((a0.ext ae).kp af).ext az;replace K0:=((K0.ext ae).n1 af).ext az;refine jF ?_ ?_
   ·intro hc49;refine kL func79 ?_;exact⟨_,rfl,by rw[Hr (λh=>jc hm Zo (by rw[<-ID Zo];exact hx) (RQ hc49) (h.2.2.1 i))],K0⟩
   intro hc49;refine jG ?_;refine kC i ?_;refine ih1 (i+1) _ _ ?_ Zo;refine⟨⟨rfl,rfl,rfl,rfl,trivial⟩,K0,a0,?_,?_⟩
   ·omega
   exact Ej hk (j6 hm hc29 (λh_ _=>U7 (p:=λy=>BI y m) (by rw[<-ID Zo];exact hx) (O9 hc49)))
  intro hc31;refine jG ?_;refine kC i ?_;refine ih1 (i+1) _ _ ?_ Zo;refine⟨⟨rfl,rfl,rfl,rfl,trivial⟩,K0,a0,?_,?_⟩
  ·omega
  exact Ej hk (j6 hm hc29 (λh_=>absurd h_ Zo))
 intro hc22;refine jG ?_;refine Ai.loop (ι:=Nat) (λi ρ' w'=>Holds ρ' [(1,jp a3),(52,.slice ac cl.length cc),(53,.int .i64 ((cl.length:Nat):Int)),(54,.int .i64 ((i:Nat):Int))]/\As w w'/\(AC w' a3 [.slice am ms.length cm,.slice ac cl.length cc] 31)/\(i<=cl.length)/\(∀j,j<i->S3 ms cl j)) (λi=>cl.length-i) 0 ?_ ?_
 ·refine⟨⟨rfl,rfl,rfl,rfl,trivial⟩,K0,a0,?_,?_⟩
  ·omega
  exact λj hj=>absurd hj (Abh j)
 clear a0;clear K0;rintro i b3 b4 ⟨aA,K0,a0,hi,hk2⟩ ih2;obtain⟨ρ₀,rfl⟩:=aA.ex;clear aA;refine kK ?_ ?_
 ·intro hc55;refine FU ?_;obtain⟨b5,b6,d,hd,aG,a8⟩:=ht.eo i;have hc_52_lt:=a8.lt;refine jV (AY underlying29 ty73 rfl rfl aG Zl) ?_;replace a8:=a8.ext K0;refine kP ?_;intro b7 b8 a9 a1 aB;have b9:=Ak a0.lt a9;have ba:=Ak a8.lt a9;have:=Aaa K0.size a9;clear a9;refine jG ?_;refine jR<|jS a1 ?_;intro bb a1 aC;refine Et ?_;replace a0:=(a0.ext aB).kp aC;replace K0:=(K0.ext aB).n1 aC;by_cases hA:AD d
  ·by_cases hB:0<i
   ·have hmk:=U6 (NI hk Zo) d.a;refine Ai.drawS [] [1000,2001,2,3,4,5,6,7,1008,9,10,11,1013,2012,2014,15,16,17,18,19,1020,1021,1022,2023,2024,25,26,27] ?_;intro bc ag;replace a0:=a0.ext ag;replace a1:=a1.ext ag;refine kF (jb a0 (jb a1 Jn)) ?_;refine jU rfl<|jC (MH d _) ?_;rintro _ be ⟨rfl,ah⟩;replace a0:=a0.ext ah;replace a1:=a1.ext ah;refine Et ?_;refine jP ?_ (hx:=by exact λ_=>(DK (Bp rfl) (by simp[hA])));refine ET ?_;refine jQ ?_ (hx:=by exact λ_ hg=>(DR (GU rfl rfl) Zi));refine jG ?_;refine jQ ?_ (hx:=by exact λ_ hg=>(B8 rfl rfl Zo Zo));obtain⟨bg,bh,x,hx,aH,aa⟩:=ht.el (i:=(((i:Nat):Int)-1).toNat) Zl;have hc_71_lt:=aa.lt;replace K0:=(K0.ext ag).ext ah;refine jQ ?_ (hx:=by exact λ_ hg=>(HO underlying29 ty73 rfl rfl aH Zo Zl));refine jG ?_;replace aa:=aa.ext K0;refine jX rfl<|jO (B9 (v:= .agg #[.int .i64 x.node,.int .i64 x.life,.int .i64 x.count]) (y:=x) ty73 rfl aa rfl) ?_;refine jG ?_;refine jX rfl<|jC (Qs x d _ (hk2 _ Zo x hx).1.sm hA.sm) ?_;rintro _ bi ⟨rfl,ai⟩;replace a0:=a0.ext ai;replace a1:=a1.ext ai;refine jG ?_;refine jQ ?_ (hx:=by exact λ_ hg=>(BP rfl rfl rfl));refine jP ?_ (hx:=by exact λ_=>(Ed rfl rfl rfl));refine jG ?_;refine jZ (λhg=>(FW d _)) ?_;intro bj aj;replace a0:=a0.ext aj;replace a1:=a1.ext aj;refine jG ?_;replace K0:=(K0.ext ai).ext aj;refine jZ (λhg=>(O0 am ms cm ac cl cc (Ah.a d) _ (hs.ext K0) (ht.ext K0) Zo Zo)) ?_;intro bk ak;replace a0:=a0.ext ak;replace a1:=a1.ext ak;refine jG ?_;refine jQ ?_ (hx:=by exact λ_ hg=>(Av (B4 hg) rfl Zo Zo));refine jG ?_;refine jP ?_ (hx:=by exact λ_=>(Er rfl rfl rfl));refine jG ?_;replace K0:=K0.ext ak;refine jF ?_ ?_
    ·intro hc86;refine kL func79 ?_;exact⟨_,rfl,by rw[Hr (λh=>hc86.elim (λh4=>absurd ((h.2.2.2 i d hd).2.1 Zo x (by rw[<-ID Zo];exact hx)) (RG.1 h4)) (λh4=>absurd h4 (Int.not_le.2 (h.2.2.2 i d hd).2.2)))],K0⟩
    intro hc86;refine jG ?_;refine kC i ?_;refine ih2 (i+1) _ _ ?_ Zo;refine⟨⟨rfl,rfl,rfl,rfl,trivial⟩,K0,a0,?_,?_⟩
    ·omega
    exact Ej hk2 (j7 hd hA (λh_ _=>U7 (p:=λy=>Cx y d) (by rw[<-ID Zo];exact hx) (EU.1 hc86.1)) hc86.2)
   have hmk:=U6 (NI hk Zo) d.a;refine Ai.drawS [] [1000,2001,2,3,4,5,6,7,8,9,10,11,12,13,2014,15,16,17,18,19,1020,1021,1022,2023,2024,25,26,27] ?_;intro bl al;replace a0:=a0.ext al;replace a1:=a1.ext al;refine kF (jb a0 (jb a1 Jn)) ?_;refine jU rfl<|jC (MH d _) ?_;rintro _ bm ⟨rfl,an⟩;replace a0:=a0.ext an;replace a1:=a1.ext an;refine Et ?_;refine jP ?_ (hx:=by exact λ_=>(DK (Bp rfl) (by simp[hA])));refine ET ?_;refine jQ ?_ (hx:=by exact λ_ hg=>(DK (GU rfl rfl) Zi));refine jG ?_;refine jY ?_;refine jG ?_;refine jQ ?_ (hx:=by exact λ_ hg=>(Bo (b:=false) (e:=false) rfl rfl rfl));refine jP ?_ (hx:=by exact λ_=>(Ed rfl rfl rfl));refine jG ?_;refine jX rfl<|jC (FW d _) ?_;rintro _ bn ⟨rfl,ao⟩;replace a0:=a0.ext ao;replace a1:=a1.ext ao;refine jG ?_;replace K0:=((K0.ext al).ext an).ext ao;refine jX rfl<|jC (O0 am ms cm ac cl cc (Ah.a d) _ (hs.ext K0) (ht.ext K0) Zo Zo) ?_;rintro _ bo ⟨rfl,ap⟩;replace a0:=a0.ext ap;replace a1:=a1.ext ap;refine jG ?_;refine jQ ?_ (hx:=by exact λ_ hg=>(Av rfl rfl Zo Zo));refine jG ?_;refine jP ?_ (hx:=by exact λ_=>(Ed rfl rfl rfl));refine jG ?_;replace K0:=K0.ext ap;refine jF ?_ ?_
   ·intro hc86;refine kL func79 ?_;exact⟨_,rfl,by rw[Hr (λh=>absurd hc86 (Int.not_le.2 (h.2.2.2 i d hd).2.2))],K0⟩
   intro hc86;refine jG ?_;refine kC i ?_;refine ih2 (i+1) _ _ ?_ Zo;refine⟨⟨rfl,rfl,rfl,rfl,trivial⟩,K0,a0,?_,?_⟩
   ·omega
   exact Ej hk2 (j7 hd hA (λh_=>absurd h_ Zo) hc86)
  skip;refine Ai.drawS [] [1000,2001,2,3,4,5,6,7,8,9,10,11,12,13,2014,15,16,17,18,19,20,21,22,2023,2024,25,26,27] ?_;intro bp aq;replace a0:=a0.ext aq;replace a1:=a1.ext aq;refine kF (jb a0 (jb a1 Jn)) ?_;refine jU rfl<|jC (MH d _) ?_;rintro _ bq ⟨rfl,ar⟩;replace a0:=a0.ext ar;replace a1:=a1.ext ar;refine Et ?_;refine jP ?_ (hx:=by exact λ_=>(DR (Bp rfl) (by simp[hA])));refine jG ?_;refine jY ?_;refine jG ?_;refine jP ?_ (hx:=by exact λ_=>(Er (b:=true) (e:=false) rfl rfl rfl));refine jG ?_;refine jY ?_;refine jG ?_;refine jY ?_;refine jG ?_;refine jP ?_ (hx:=by exact λ_=>(Er (b:=true) (e:=false) rfl rfl rfl));refine kI ?_;refine jJ func79 ?_;replace K0:=(K0.ext aq).ext ar;exact⟨_,rfl,by rw[Hr (λh=>hA (h.2.2.2 i d hd).1)],K0⟩
 intro hc55;refine kL func79 ?_;exact⟨_,rfl,by rw[Gd ⟨hl64,hl65,NI hk Zo,Xj hk2 Zo⟩],K0⟩
end
section
def NJ {α:Type}{xs:List α}{p:α->Prop}{i:Nat}(h:∀j,j<i->∀x,xs[j]? =some x->p x)(hi:xs.length<=i):∀x∈xs,p x:=λx hx=>by
 obtain⟨j,hj,rfl⟩:=AaI hx;exact h j Zo _ (List.getElem?_eq_getElem hj)
def NK {α:Type}{xs:List α}{p:α->Prop}{i:Nat}{x:α}(hx:xs[i]? =some x)(h:p x):∀y,xs[i]? =some y->p y:=λy hy=>by rw[hx]at hy;cases hy;exact h
def NL {α β:Type}{f:β->α->β}{b:β}{xs:List α}{i:Nat}{x:α}(hx:xs[i]? =some x):(xs.take (i+1)).foldl f b=f ((xs.take i).foldl f b) x:=by
 obtain⟨hi,rfl⟩:=List.getElem?_eq_some_iff.1 hx;rw[AaJ hi,Abg];rfl
def G8.at {M l:List Ab}{i:Nat}{m:Ab}(h:G8 l (M.take i))(hm:M[i]? =some m)(hp:1<=m.count):G8 (Jo l m) (M.take (i+1)):=by
 obtain⟨hi,rfl⟩:=List.getElem?_eq_some_iff.1 hm;rw[AaJ hi];exact h.step hp
def G9.at {D l:List Ah}{i:Nat}{d:Ah}(h:G9 l (D.take i))(hd:D[i]? =some d):G9 (JX l d) (D.take (i+1)):=by
 obtain⟨hi,rfl⟩:=List.getElem?_eq_some_iff.1 hd;rw[AaJ hi];exact h.step _
def AD.pos {d:Ah}(h:AD d):1<=d.count:=by unfold AD at h;omega
def Cm (M:List Ab)(D:List Ah):Int×List Ab×List Ah:=
 if (∃m∈M,¬AD m.d)\/(∃d∈D,¬AD d)then(1,[],[])else if 64<(Cu M D).1.length\/64<(Cu M D).2.length then(4,[],[])else(0,(Cu M D).1,(Cu M D).2)
def Xk {M:List Ab}{D:List Ah}{i:Nat}{m:Ab}(hm:M[i]? =some m)(h:¬AD m.d):Cm M D=(1,[],[]):=by rw[Cm,if_pos (.inl ⟨m,BH hm,h⟩)]
def Xl {M:List Ab}{D:List Ah}{i:Nat}{d:Ah}(hd:D[i]? =some d)(h:¬AD d):Cm M D=(1,[],[]):=by rw[Cm,if_pos (.inr ⟨d,BH hd,h⟩)]
def MJ {M:List Ab}{D:List Ah}(hM:∀m∈M,AD m.d)(hD:∀d∈D,AD d):¬((∃m∈M,¬AD m.d)\/(∃d∈D,¬AD d)):=by
 rintro(⟨m,hm,h⟩|⟨d,hd,h⟩)
 ·exact h (hM m hm)
 exact h (hD d hd)
def Qu {M ms:List Ab}{D cl:List Ah}(hM:∀m∈M,AD m.d)(hD:∀d∈D,AD d)(h:Cu M D=(ms,cl))(hl:64<ms.length\/64<cl.length):Cm M D=(4,[],[]):=by
 rw[Cm,if_neg (MJ hM hD),h,if_pos hl]
def U9 {M ms:List Ab}{D cl:List Ah}(hM:∀m∈M,AD m.d)(hD:∀d∈D,AD d)(h:Cu M D=(ms,cl))(h1:ms.length<=64)(h2:cl.length<=64):Cm M D=(0,ms,cl):=by
 rw[Cm,if_neg (MJ hM hD),h,if_neg Zp]
noncomputable def AW (ms:List Ab)(cl:List Ah)(ms':List Ab)(cl':List Ah):Int×List Ab×List Ah:=
 if BL ms cl=true/\BL ms' cl'=true then Cm (ms++ms') (cl++cl')else(30,[],[])
def Pa {ms ms':List Ab}{cl cl':List Ah}(h:¬(BL ms cl=true/\BL ms' cl'=true)):AW ms cl ms' cl'=(30,[],[]):=by rw[AW,if_neg h]
def Ge {ms ms':List Ab}{cl cl':List Ah}(h:BL ms cl=true)(h2:BL ms' cl'=true):AW ms cl ms' cl'=Cm (ms++ms') (cl++cl'):=by rw[AW,if_pos ⟨h,h2⟩]
attribute [local irreducible] AD DP Cx BI By Ca B6 Jo JX Cm AW Cu
end
section
def Va (ms:List Ab)(ds:List Ah)(i:Nat):SS:=(ds.take i).foldl RO ⟨ms,[],false⟩
def Vb {ms:List Ab}{ds:List Ah}{i:Nat}{d:Ah}(hd:ds[i]? =some d):Va ms ds (i+1)=RO (Va ms ds i) d:=NL hd
def JN.sub {ms:List Ab}{ds:List Ah}{i:Nat}{d:Ah}(h:JN ms (ds.take i) d):JN ms ds d:=⟨h.1,h.2.elim .inl (λh2=> .inr (Acg h2))⟩
def Ha.len {M ms:List Ab}{D ds:List Ah}{s:SS}{i:Nat}(h:Ha ms ds s i)(hS:Lm M D ms ds):s.ms.length+s.left.length<=M.length+D.length:=by
 have:=h.hlen;have:=hS.hl;have:(ds.take i).length<=ds.length:=by rw[List.length_take];omega
 omega
def Ha.up {M ms:List Ab}{D ds:List Ah}{i:Nat}{d:Ah}(h:Ha ms ds (Va ms ds i) i)(hS:Lm M D ms ds)(hd:ds[i]? =some d):Ha ms ds (Va ms ds (i+1)) (i+1):=by
 rw[Vb hd];exact h.step hd (hS.hd d (BH hd))
attribute [local irreducible] AD DP Cx BI By Ca B6 Jo JX Cm AW Cu Va JN
end
section
def Vc {α:Type}{xs:List α}{i:Nat}(h:xs.length<=i):xs.take i=xs:=AaB h
def Gf {M:List Ab}{D:List Ah}(hM:∀m∈M,AD m.d)(hD:∀d∈D,AD d):(64<(Cu M D).1.length\/64<(Cu M D).2.length->Cm M D=(4,[],[]))/\(¬(64<(Cu M D).1.length\/64<(Cu M D).2.length)->Cm M D=(0,(Cu M D).1,(Cu M D).2)):=
 ⟨λh=>Qu hM hD rfl h,λh=>U9 hM hD rfl Zo Zo⟩
def RR {M:List Ab}{D:List Ah}(hM:∀m∈M,AD m.d)(hD:∀d∈D,AD d):(∀m∈M,1<=m.count)/\∀d∈D,1<=d.count:=⟨λm hm=>(hM m hm).pos,λd hd=>(hD d hd).pos⟩
attribute [local irreducible] AD DP Cx BI By Ca B6 Jo JX Cm AW Cu Va JN
end
end Go.Proofs.YtjkaicjmfgekjaaGreatDoor
