/-
  Wb
-/
import Derived.Test.YtocgdeefgohdhaaGreatRows
import Derived.Test.YtocgdeefgohdhaaGreatPqWa
import Derived.Test.YtocgdeefgohdhaaGreatPqI
set_option linter.all false
set_option maxRecDepth 100000
set_option maxHeartbeats 4000000
namespace Go.Proofs.YtocgdeefgohdhaaGreat
open Go.Proofs.Tryz
attribute [local irreducible] RD RS AD RL RA RT BH Al
open Wa
section
variable {a b:MV}{s t:A6}{w:World}
def Gt (a b:MV):Bool:=decide (a.mrk=b.mrk)&&decide (a.cl=b.cl)
def EO (a b:MV):Bool:=decide (a.ent=b.ent)&&Gt a b
def H5 (a b:MV):Bool:=(((decide (a.parts=b.parts)&&decide (a.copies=b.copies))&&decide (a.spots=b.spots))&&decide (a.mem=b.mem))
theorem Qj (h:((((((((a.kind≠b.kind)∨(a.frm≠b.frm))∨(a.to≠b.to))∨(a.req≠b.req))∨(a.key≠b.key))∨(a.owner≠b.owner))∨(a.part≠b.part))∨(a.n≠b.n))):decide (a=b)=false:=decide_eq_false fun e=>by subst e;simp at h
theorem Oy (h1:a.kind=b.kind)(h2:a.frm=b.frm)(h3:a.to=b.to)(h4:a.req=b.req)(h5:a.key=b.key)(h6:a.owner=b.owner)(h7:a.part=b.part)(h8:a.n=b.n):
  (((EO a b&&H5 a b)&&decide (a.pe=b.pe))&&decide (a.su=b.su))=decide (a=b):=by
 rw[Bool.eq_iff_iff]
 simp only[EO,Gt,H5,Bool.and_eq_true,decide_eq_true_eq,MV.iff]
 constructor
 ·rintro⟨⟨⟨⟨q1,q2,q3⟩,⟨⟨q4,q5⟩,q6⟩,q7⟩,q8⟩,q9⟩
  exact⟨h1,h2,h3,h4,h5,h6,h7,h8,q4,q5,q6,q1,q2,q3,q7,q8,q9⟩
 ·rintro⟨_,_,_,_,_,_,_,_,q4,q5,q6,q1,q2,q3,q7,q8,q9⟩
  exact⟨⟨⟨⟨q1,q2,q3⟩,⟨⟨q4,q5⟩,q6⟩,q7⟩,q8⟩,q9⟩
end
attribute [local irreducible] X
theorem Nt (a:Option Addr)(xs:List Ai)(c:Nat)(x:Ai)(w:World)(hs:At w a xs)(hl:xs.length≤4294967295):
  Calls prog 168 #[.slice a xs.length c,.agg #[.string ((x).item),.int .i64 (((x).dot).node),.int .i64 (((x).dot).life),.int .i64 (((x).dot).count),.int .i64 ((x).qty),.int .u64 ((x).price)]] w (AU (fun v w'=>v= .int .i64 (FV (x==·) xs)∧As w w')):=by
 refine Af (n:=19) func168 rfl rfl rfl ?_;refine jG ?_;refine jR<|jB ?_;intro a1 a7 a4 a0 a6;have:w.heap.size≤a1:=a4;clear a4;have K0:=(a6:As w _);refine jG ?_;refine Al.loop (ι:=Nat) (fun i ρ' w'=>AG ρ' [(0,.slice a xs.length c),(3,jp a1),(7,.int .i64 ((xs.length:Nat):Int)),(8,.int .i64 ((i:Nat):Int))]∧As w w'∧(AI w' a1 [.string ((x).item),.int .i64 (((x).dot).node),.int .i64 (((x).dot).life),.int .i64 (((x).dot).count),.int .i64 ((x).qty),.int .u64 ((x).price)] 89)∧(i≤xs.length)∧(Ep (x==·) xs i)) (fun i=>xs.length-i) 0 ?_ ?_
 ·refine⟨⟨rfl,rfl,rfl,rfl,trivial⟩,K0,a0,?_,?_⟩
  ·omega
  ·exact Ep.zero _ _
 clear a0;clear K0;rintro i a8 a9 ⟨a5,K0,a0,hi,hno⟩ ih1;obtain⟨ρ₀,rfl⟩:=a5.ex;clear a5;refine jG ?_;refine jF ?_ ?_
 ·intro hc9
  refine jG ?_;obtain⟨aa,ab,e,hx,ac,a2⟩:=hs.eo i;have hc_14_lt:=a2.lt;refine Al.drawR ?_;intro ad a3;replace a2:=(a2.ext K0).ext a3;replace a0:=a0.ext a3;refine jG ?_;refine jD (Ev Zk rfl rfl (Eb x e)) ?_;refine jG ?_;replace K0:=K0.ext a3;refine jF ?_ ?_
  ·intro hc16
   refine jG ?_;refine jJ func168 ?_;exact⟨_,rfl,by rw[Gp hx (by simpa using hc16) hno],K0⟩
  ·intro hc16
   refine jG ?_;refine jV (Ay (c:=((i+1:Nat):Int)) (Aq rfl rfl Zo Zo) rfl) ?_;refine jG ?_;refine ih1 (i+1) _ _ ?_ Zo;refine⟨⟨rfl,rfl,rfl,rfl,trivial⟩,K0,a0,?_,?_⟩
   ·omega
   ·exact hno.step hx (by simpa using hc16)
 ·intro hc9
  refine jG ?_;refine jJ func168 ?_;exact⟨_,rfl,by rw[Gq hno Zo],K0⟩
theorem Gu (a:Option Addr)(xs:List Ai)(c:Nat)(x:Ai)(w:World)(hs:At w a xs)(hl:xs.length≤4294967295):
  Calls prog 162 #[.slice a xs.length c,.agg #[.string ((x).item),.int .i64 (((x).dot).node),.int .i64 (((x).dot).life),.int .i64 (((x).dot).count),.int .i64 ((x).qty),.int .u64 ((x).price)]] w (AU (fun v w'=>v= .bool (xs.any (x==·))∧As w w')):=by
 refine Af (n:=9) func162 rfl rfl rfl ?_;refine jG ?_;refine jR<|jB ?_;intro a1 a4 a0 a5 a2;have:w.heap.size≤a1:=a0;clear a0;have K0:=(a2:As w _);refine jG ?_;refine jR<|jC (Nt _ _ _ x _ (hs.ext K0) Zo) ?_;rintro _ a6 ⟨rfl,a3⟩;refine jG ?_;refine jJ func162 ?_;replace K0:=K0.ext a3;exact⟨_,rfl,by rw[Gs],K0⟩
theorem GZ (a:Option Addr)(xs:List Ai)(c:Nat)(d:Option Addr)(ys:List Ai)(e:Nat)(w:World)(hs:At w a xs)(ht:At w d ys)(hl:xs.length≤4294967295):
  Calls prog 70 #[.slice a xs.length c,.slice d ys.length e] w (AU (fun v w'=>v= .bool (decide (xs=ys))∧As w w')):=by
 refine Af (n:=26) func70 rfl rfl rfl ?_;refine jG ?_;refine jF ?_ ?_
 ·intro hc10
  refine jG ?_;refine jJ func70 ?_;exact⟨_,rfl,by rw[decide_eq_false (fun h=>hc10 (by rw[h]))],(Ao.refl _ w)⟩
 ·intro hc10
  have hlen:xs.length=ys.length:=by omega
  refine jG ?_;refine Al.loop (ι:=Nat) (fun i ρ' w'=>AG ρ' [(0,.slice a xs.length c),(1,.slice d ys.length e),(12,.int .i64 ((xs.length:Nat):Int)),(13,.int .i64 ((i:Nat):Int))]∧As w w'∧(i≤xs.length)∧(CJ xs ys i)) (fun i=>xs.length-i) 0 ?_ ?_
  ·refine⟨⟨rfl,rfl,rfl,rfl,trivial⟩,(Ao.refl _ w),?_,?_⟩
   ·omega
   ·exact CJ.zero _ _
  rintro i a4 a5 ⟨a3,K0,hi,hno⟩ ih1;obtain⟨ρ₀,rfl⟩:=a3.ex;clear a3;refine jG ?_;refine jF ?_ ?_
  ·intro hc14
   refine jG ?_;obtain⟨a6,a7,x,hx,a8,a0⟩:=hs.eo i;have hc_9_lt:=a0.lt;obtain⟨a9,aa,y,hy,ab,a1⟩:=ht.eo i;have hc_15_lt:=a1.lt;refine Al.drawR ?_;intro ac a2;replace a0:=(a0.ext K0).ext a2;replace a1:=(a1.ext K0).ext a2;refine jG ?_;refine jD (Ew Zk rfl rfl (Eb x y)) ?_;refine jG ?_;replace K0:=K0.ext a2;refine jF ?_ ?_
   ·intro hc24
    refine jG ?_;refine jJ func70 ?_;exact⟨_,rfl,by rw[decide_eq_false (DJ hx hy hc24)],K0⟩
   ·intro hc24
    refine jG ?_;refine jV (Ay (c:=((i+1:Nat):Int)) (Aq rfl rfl Zo Zo) rfl) ?_;refine jG ?_;refine ih1 (i+1) _ _ ?_ Zo;refine⟨⟨rfl,rfl,rfl,rfl,trivial⟩,K0,?_,?_⟩
    ·omega
    ·exact hno.step hx hy hc24
  ·intro hc14
   refine jG ?_;refine jJ func70 ?_;exact⟨_,rfl,by rw[decide_eq_true (hno.all hlen Zo)],K0⟩
theorem G1 (a:Option Addr)(xs:List Ai)(c:Nat)(w:World)(hs:At w a xs)(hl:xs.length≤4294967295):
  Calls prog 64 #[.slice a xs.length c] w (AU (fun v w'=>∃a' c',v= .slice a' xs.length c'∧Ag w' 89 a' c' xs∧(∀b,own a' b→w.heap.size≤b)∧As w w')):=by
 refine Af (n:=8) func64 rfl rfl rfl ?_;refine jG ?_;refine jV (E3 underlying23 rfl rfl) ?_;refine jG ?_;refine Al.cond rfl (fun hc4=> ?_) (fun hc4=> ?_)
 ·skip
  refine jG ?_;refine jJ func64 ?_;have hx:=hs.nil_of hc4;subst hx;exact⟨_,rfl,none,0,rfl,Ag.nil _ _,fun b h=>absurd h (Ad b),(Ao.refl _ w)⟩
 ·skip
  refine jG ?_;refine jR<|AD.buildSlice ([]:List Ai) underlying23 ty89 rfl rfl Ze ?_;intro ab ac a0 a4 a5;have a1:=Az (Nat.le_refl _) (Av a0);clear a0;have K0:=(a5:As w _);refine jG ?_;refine jR<|AD.append (xs:=([]:List Ai)) (ys:=xs) underlying23 ty89 rfl rfl rfl a4 (hs.ext K0) Zr Zd ?_;intro a2 a6 ad a7 a8 a3 a9;have aa:∀q_,own a2 q_→w.heap.size≤q_:=a3.ge a1 K0.size;clear a3;clear a9;refine jG ?_;refine jJ func64 ?_;replace K0:=K0.new a8 a1;exact⟨_,rfl,a2,a6,by rw[List.nil_append],by simpa using a7,aa,K0⟩
theorem G2 (a:Option Addr)(xs:List Ac)(c:Nat)(d:Option Addr)(ys:List Ac)(e:Nat)(w:World)(hs:At w a xs)(ht:At w d ys)(hl:xs.length≤4294967295):
  Calls prog 91 #[.slice a xs.length c,.slice d ys.length e] w (AU (fun v w'=>v= .bool (decide (xs=ys))∧As w w')):=by
 refine Af (n:=26) func91 rfl rfl rfl ?_;refine jG ?_;refine jF ?_ ?_
 ·intro hc10
  refine jG ?_;refine jJ func91 ?_;exact⟨_,rfl,by rw[decide_eq_false (fun h=>hc10 (by rw[h]))],(Ao.refl _ w)⟩
 ·intro hc10
  have hlen:xs.length=ys.length:=by omega
  refine jG ?_;refine Al.loop (ι:=Nat) (fun i ρ' w'=>AG ρ' [(0,.slice a xs.length c),(1,.slice d ys.length e),(12,.int .i64 ((xs.length:Nat):Int)),(13,.int .i64 ((i:Nat):Int))]∧As w w'∧(i≤xs.length)∧(CJ xs ys i)) (fun i=>xs.length-i) 0 ?_ ?_
  ·refine⟨⟨rfl,rfl,rfl,rfl,trivial⟩,(Ao.refl _ w),?_,?_⟩
   ·omega
   ·exact CJ.zero _ _
  rintro i a4 a5 ⟨a3,K0,hi,hno⟩ ih1;obtain⟨ρ₀,rfl⟩:=a3.ex;clear a3;refine jG ?_;refine jF ?_ ?_
  ·intro hc14
   refine jG ?_;obtain⟨a6,a7,x,hx,a8,a0⟩:=hs.eo i;have hc_9_lt:=a0.lt;obtain⟨a9,aa,y,hy,ab,a1⟩:=ht.eo i;have hc_15_lt:=a1.lt;refine Al.drawR ?_;intro ac a2;replace a0:=(a0.ext K0).ext a2;replace a1:=(a1.ext K0).ext a2;refine jG ?_;refine jD (Ew Zk rfl rfl (Ks x y)) ?_;refine jG ?_;replace K0:=K0.ext a2;refine jF ?_ ?_
   ·intro hc24
    refine jG ?_;refine jJ func91 ?_;exact⟨_,rfl,by rw[decide_eq_false (DJ hx hy hc24)],K0⟩
   ·intro hc24
    refine jG ?_;refine jV (Ay (c:=((i+1:Nat):Int)) (Aq rfl rfl Zo Zo) rfl) ?_;refine jG ?_;refine ih1 (i+1) _ _ ?_ Zo;refine⟨⟨rfl,rfl,rfl,rfl,trivial⟩,K0,?_,?_⟩
    ·omega
    ·exact hno.step hx hy hc24
  ·intro hc14
   refine jG ?_;refine jJ func91 ?_;exact⟨_,rfl,by rw[decide_eq_true (hno.all hlen Zo)],K0⟩
theorem I9 (a:Option Addr)(xs:List Ac)(c:Nat)(w:World)(hs:At w a xs)(hl:xs.length≤4294967295):
  Calls prog 78 #[.slice a xs.length c] w (AU (fun v w'=>∃a' c',v= .slice a' xs.length c'∧Ag w' 112 a' c' xs∧(∀b,own a' b→w.heap.size≤b)∧As w w')):=by
 refine Af (n:=8) func78 rfl rfl rfl ?_;refine jG ?_;refine jV (E3 underlying24 rfl rfl) ?_;refine jG ?_;refine Al.cond rfl (fun hc4=> ?_) (fun hc4=> ?_)
 ·skip
  refine jG ?_;refine jJ func78 ?_;have hx:=hs.nil_of hc4;subst hx;exact⟨_,rfl,none,0,rfl,Ag.nil _ _,fun b h=>absurd h (Ad b),(Ao.refl _ w)⟩
 ·skip
  refine jG ?_;refine jR<|AD.buildSlice ([]:List Ac) underlying24 ty112 rfl rfl Ze ?_;intro ab ac a0 a4 a5;have a1:=Az (Nat.le_refl _) (Av a0);clear a0;have K0:=(a5:As w _);refine jG ?_;refine jR<|AD.append (xs:=([]:List Ac)) (ys:=xs) underlying24 ty112 rfl rfl rfl a4 (hs.ext K0) Zr Zd ?_;intro a2 a6 ad a7 a8 a3 a9;have aa:∀q_,own a2 q_→w.heap.size≤q_:=a3.ge a1 K0.size;clear a3;clear a9;refine jG ?_;refine jJ func78 ?_;replace K0:=K0.new a8 a1;exact⟨_,rfl,a2,a6,by rw[List.nil_append],by simpa using a7,aa,K0⟩
theorem Oz (a:Option Addr)(xs:List Ah)(c:Nat)(d:Option Addr)(ys:List Ah)(e:Nat)(w:World)(hs:At w a xs)(ht:At w d ys)(hl:xs.length≤4294967295):
  Calls prog 92 #[.slice a xs.length c,.slice d ys.length e] w (AU (fun v w'=>v= .bool (decide (xs=ys))∧As w w')):=by
 refine Af (n:=26) func92 rfl rfl rfl ?_;refine jG ?_;refine jF ?_ ?_
 ·intro hc10
  refine jG ?_;refine jJ func92 ?_;exact⟨_,rfl,by rw[decide_eq_false (fun h=>hc10 (by rw[h]))],(Ao.refl _ w)⟩
 ·intro hc10
  have hlen:xs.length=ys.length:=by omega
  refine jG ?_;refine Al.loop (ι:=Nat) (fun i ρ' w'=>AG ρ' [(0,.slice a xs.length c),(1,.slice d ys.length e),(12,.int .i64 ((xs.length:Nat):Int)),(13,.int .i64 ((i:Nat):Int))]∧As w w'∧(i≤xs.length)∧(CJ xs ys i)) (fun i=>xs.length-i) 0 ?_ ?_
  ·refine⟨⟨rfl,rfl,rfl,rfl,trivial⟩,(Ao.refl _ w),?_,?_⟩
   ·omega
   ·exact CJ.zero _ _
  rintro i a4 a5 ⟨a3,K0,hi,hno⟩ ih1;obtain⟨ρ₀,rfl⟩:=a3.ex;clear a3;refine jG ?_;refine jF ?_ ?_
  ·intro hc14
   refine jG ?_;obtain⟨a6,a7,x,hx,a8,a0⟩:=hs.eo i;have hc_9_lt:=a0.lt;obtain⟨a9,aa,y,hy,ab,a1⟩:=ht.eo i;have hc_15_lt:=a1.lt;refine Al.drawR ?_;intro ac a2;replace a0:=(a0.ext K0).ext a2;replace a1:=(a1.ext K0).ext a2;refine jG ?_;refine jD (Ew Zk rfl rfl (CF x y)) ?_;refine jG ?_;replace K0:=K0.ext a2;refine jF ?_ ?_
   ·intro hc24
    refine jG ?_;refine jJ func92 ?_;exact⟨_,rfl,by rw[decide_eq_false (DJ hx hy hc24)],K0⟩
   ·intro hc24
    refine jG ?_;refine jV (Ay (c:=((i+1:Nat):Int)) (Aq rfl rfl Zo Zo) rfl) ?_;refine jG ?_;refine ih1 (i+1) _ _ ?_ Zo;refine⟨⟨rfl,rfl,rfl,rfl,trivial⟩,K0,?_,?_⟩
    ·omega
    ·exact hno.step hx hy hc24
  ·intro hc14
   refine jG ?_;refine jJ func92 ?_;exact⟨_,rfl,by rw[decide_eq_true (hno.all hlen Zo)],K0⟩
theorem Nu (a:Option Addr)(xs:List BW)(c:Nat)(d:Option Addr)(ys:List BW)(e:Nat)(w:World)(hs:At w a xs)(ht:At w d ys)(hl:xs.length≤4294967295):
  Calls prog 83 #[.slice a xs.length c,.slice d ys.length e] w (AU (fun v w'=>v= .bool (decide (xs=ys))∧As w w')):=by
 refine Af (n:=26) func83 rfl rfl rfl ?_;refine jG ?_;refine jF ?_ ?_
 ·intro hc10
  refine jG ?_;refine jJ func83 ?_;exact⟨_,rfl,by rw[decide_eq_false (fun h=>hc10 (by rw[h]))],(Ao.refl _ w)⟩
 ·intro hc10
  have hlen:xs.length=ys.length:=by omega
  refine jG ?_;refine Al.loop (ι:=Nat) (fun i ρ' w'=>AG ρ' [(0,.slice a xs.length c),(1,.slice d ys.length e),(12,.int .i64 ((xs.length:Nat):Int)),(13,.int .i64 ((i:Nat):Int))]∧As w w'∧(i≤xs.length)∧(CJ xs ys i)) (fun i=>xs.length-i) 0 ?_ ?_
  ·refine⟨⟨rfl,rfl,rfl,rfl,trivial⟩,(Ao.refl _ w),?_,?_⟩
   ·omega
   ·exact CJ.zero _ _
  rintro i a4 a5 ⟨a3,K0,hi,hno⟩ ih1;obtain⟨ρ₀,rfl⟩:=a3.ex;clear a3;refine jG ?_;refine jF ?_ ?_
  ·intro hc14
   refine jG ?_;obtain⟨a6,a7,x,hx,a8,a0⟩:=hs.eo i;have hc_9_lt:=a0.lt;obtain⟨a9,aa,y,hy,ab,a1⟩:=ht.eo i;have hc_15_lt:=a1.lt;refine Al.drawR ?_;intro ac a2;replace a0:=(a0.ext K0).ext a2;replace a1:=(a1.ext K0).ext a2;refine jG ?_;refine jD (Ew Zk rfl rfl (LG x y)) ?_;refine jG ?_;replace K0:=K0.ext a2;refine jF ?_ ?_
   ·intro hc24
    refine jG ?_;refine jJ func83 ?_;exact⟨_,rfl,by rw[decide_eq_false (DJ hx hy hc24)],K0⟩
   ·intro hc24
    refine jG ?_;refine jV (Ay (c:=((i+1:Nat):Int)) (Aq rfl rfl Zo Zo) rfl) ?_;refine jG ?_;refine ih1 (i+1) _ _ ?_ Zo;refine⟨⟨rfl,rfl,rfl,rfl,trivial⟩,K0,?_,?_⟩
    ·omega
    ·exact hno.step hx hy hc24
  ·intro hc14
   refine jG ?_;refine jJ func83 ?_;exact⟨_,rfl,by rw[decide_eq_true (hno.all hlen Zo)],K0⟩
theorem Nv (a:Option Addr)(xs:List BW)(c:Nat)(w:World)(hs:At w a xs)(hl:xs.length≤4294967295):
  Calls prog 80 #[.slice a xs.length c] w (AU (fun v w'=>∃a' c',v= .slice a' xs.length c'∧Ag w' 131 a' c' xs∧(∀b,own a' b→w.heap.size≤b)∧As w w')):=by
 refine Af (n:=8) func80 rfl rfl rfl ?_;refine jG ?_;refine jV (E3 underlying42 rfl rfl) ?_;refine jG ?_;refine Al.cond rfl (fun hc4=> ?_) (fun hc4=> ?_)
 ·skip
  refine jG ?_;refine jJ func80 ?_;have hx:=hs.nil_of hc4;subst hx;exact⟨_,rfl,none,0,rfl,Ag.nil _ _,fun b h=>absurd h (Ad b),(Ao.refl _ w)⟩
 ·skip
  refine jG ?_;refine jR<|AD.buildSlice ([]:List BW) underlying42 ty131 rfl rfl Ze ?_;intro ab ac a0 a4 a5;have a1:=Az (Nat.le_refl _) (Av a0);clear a0;have K0:=(a5:As w _);refine jG ?_;refine jR<|AD.append (xs:=([]:List BW)) (ys:=xs) underlying42 ty131 rfl rfl rfl a4 (hs.ext K0) Zr Zd ?_;intro a2 a6 ad a7 a8 a3 a9;have aa:∀q_,own a2 q_→w.heap.size≤q_:=a3.ge a1 K0.size;clear a3;clear a9;refine jG ?_;refine jJ func80 ?_;replace K0:=K0.new a8 a1;exact⟨_,rfl,a2,a6,by rw[List.nil_append],by simpa using a7,aa,K0⟩
theorem OA (a:Option Addr)(xs:List Dn)(c:Nat)(d:Option Addr)(ys:List Dn)(e:Nat)(w:World)(hs:At w a xs)(ht:At w d ys)(hl:xs.length≤4294967295):
  Calls prog 62 #[.slice a xs.length c,.slice d ys.length e] w (AU (fun v w'=>v= .bool (decide (xs=ys))∧As w w')):=by
 refine Af (n:=26) func62 rfl rfl rfl ?_;refine jG ?_;refine jF ?_ ?_
 ·intro hc10
  refine jG ?_;refine jJ func62 ?_;exact⟨_,rfl,by rw[decide_eq_false (fun h=>hc10 (by rw[h]))],(Ao.refl _ w)⟩
 ·intro hc10
  have hlen:xs.length=ys.length:=by omega
  refine jG ?_;refine Al.loop (ι:=Nat) (fun i ρ' w'=>AG ρ' [(0,.slice a xs.length c),(1,.slice d ys.length e),(12,.int .i64 ((xs.length:Nat):Int)),(13,.int .i64 ((i:Nat):Int))]∧As w w'∧(i≤xs.length)∧(CJ xs ys i)) (fun i=>xs.length-i) 0 ?_ ?_
  ·refine⟨⟨rfl,rfl,rfl,rfl,trivial⟩,(Ao.refl _ w),?_,?_⟩
   ·omega
   ·exact CJ.zero _ _
  rintro i a4 a5 ⟨a3,K0,hi,hno⟩ ih1;obtain⟨ρ₀,rfl⟩:=a3.ex;clear a3;refine jG ?_;refine jF ?_ ?_
  ·intro hc14
   refine jG ?_;obtain⟨a6,a7,x,hx,a8,a0⟩:=hs.eo i;have hc_9_lt:=a0.lt;obtain⟨a9,aa,y,hy,ab,a1⟩:=ht.eo i;have hc_15_lt:=a1.lt;refine Al.drawR ?_;intro ac a2;replace a0:=(a0.ext K0).ext a2;replace a1:=(a1.ext K0).ext a2;refine jG ?_;refine jD (Ew Zk rfl rfl (Ow x y)) ?_;refine jG ?_;replace K0:=K0.ext a2;refine jF ?_ ?_
   ·intro hc24
    refine jG ?_;refine jJ func62 ?_;exact⟨_,rfl,by rw[decide_eq_false (DJ hx hy hc24)],K0⟩
   ·intro hc24
    refine jG ?_;refine jV (Ay (c:=((i+1:Nat):Int)) (Aq rfl rfl Zo Zo) rfl) ?_;refine jG ?_;refine ih1 (i+1) _ _ ?_ Zo;refine⟨⟨rfl,rfl,rfl,rfl,trivial⟩,K0,?_,?_⟩
    ·omega
    ·exact hno.step hx hy hc24
  ·intro hc14
   refine jG ?_;refine jJ func62 ?_;exact⟨_,rfl,by rw[decide_eq_true (hno.all hlen Zo)],K0⟩
theorem OB (a:Option Addr)(xs:List Dn)(c:Nat)(w:World)(hs:At w a xs)(hl:xs.length≤4294967295):
  Calls prog 47 #[.slice a xs.length c] w (AU (fun v w'=>∃a' c',v= .slice a' xs.length c'∧Ag w' 108 a' c' xs∧(∀b,own a' b→w.heap.size≤b)∧As w w')):=by
 refine Af (n:=8) func47 rfl rfl rfl ?_;refine jG ?_;refine jV (E3 underlying45 rfl rfl) ?_;refine jG ?_;refine Al.cond rfl (fun hc4=> ?_) (fun hc4=> ?_)
 ·skip
  refine jG ?_;refine jJ func47 ?_;have hx:=hs.nil_of hc4;subst hx;exact⟨_,rfl,none,0,rfl,Ag.nil _ _,fun b h=>absurd h (Ad b),(Ao.refl _ w)⟩
 ·skip
  refine jG ?_;refine jR<|AD.buildSlice ([]:List Dn) underlying45 ty108 rfl rfl Ze ?_;intro ab ac a0 a4 a5;have a1:=Az (Nat.le_refl _) (Av a0);clear a0;have K0:=(a5:As w _);refine jG ?_;refine jR<|AD.append (xs:=([]:List Dn)) (ys:=xs) underlying45 ty108 rfl rfl rfl a4 (hs.ext K0) Zr Zd ?_;intro a2 a6 ad a7 a8 a3 a9;have aa:∀q_,own a2 q_→w.heap.size≤q_:=a3.ge a1 K0.size;clear a3;clear a9;refine jG ?_;refine jJ func47 ?_;replace K0:=K0.new a8 a1;exact⟨_,rfl,a2,a6,by rw[List.nil_append],by simpa using a7,aa,K0⟩
theorem OC (a:Option Addr)(xs:List E4)(c:Nat)(d:Option Addr)(ys:List E4)(e:Nat)(w:World)(hs:At w a xs)(ht:At w d ys)(hl:xs.length≤4294967295):
  Calls prog 63 #[.slice a xs.length c,.slice d ys.length e] w (AU (fun v w'=>v= .bool (decide (xs=ys))∧As w w')):=by
 refine Af (n:=26) func63 rfl rfl rfl ?_;refine jG ?_;refine jF ?_ ?_
 ·intro hc10
  refine jG ?_;refine jJ func63 ?_;exact⟨_,rfl,by rw[decide_eq_false (fun h=>hc10 (by rw[h]))],(Ao.refl _ w)⟩
 ·intro hc10
  have hlen:xs.length=ys.length:=by omega
  refine jG ?_;refine Al.loop (ι:=Nat) (fun i ρ' w'=>AG ρ' [(0,.slice a xs.length c),(1,.slice d ys.length e),(12,.int .i64 ((xs.length:Nat):Int)),(13,.int .i64 ((i:Nat):Int))]∧As w w'∧(i≤xs.length)∧(CJ xs ys i)) (fun i=>xs.length-i) 0 ?_ ?_
  ·refine⟨⟨rfl,rfl,rfl,rfl,trivial⟩,(Ao.refl _ w),?_,?_⟩
   ·omega
   ·exact CJ.zero _ _
  rintro i a4 a5 ⟨a3,K0,hi,hno⟩ ih1;obtain⟨ρ₀,rfl⟩:=a3.ex;clear a3;refine jG ?_;refine jF ?_ ?_
  ·intro hc14
   refine jG ?_;obtain⟨a6,a7,x,hx,a8,a0⟩:=hs.eo i;have hc_9_lt:=a0.lt;obtain⟨a9,aa,y,hy,ab,a1⟩:=ht.eo i;have hc_15_lt:=a1.lt;refine Al.drawR ?_;intro ac a2;replace a0:=(a0.ext K0).ext a2;replace a1:=(a1.ext K0).ext a2;refine jG ?_;refine jD (Ew Zk rfl rfl (Qi x y)) ?_;refine jG ?_;replace K0:=K0.ext a2;refine jF ?_ ?_
   ·intro hc24
    refine jG ?_;refine jJ func63 ?_;exact⟨_,rfl,by rw[decide_eq_false (DJ hx hy hc24)],K0⟩
   ·intro hc24
    refine jG ?_;refine jV (Ay (c:=((i+1:Nat):Int)) (Aq rfl rfl Zo Zo) rfl) ?_;refine jG ?_;refine ih1 (i+1) _ _ ?_ Zo;refine⟨⟨rfl,rfl,rfl,rfl,trivial⟩,K0,?_,?_⟩
    ·omega
    ·exact hno.step hx hy hc24
  ·intro hc14
   refine jG ?_;refine jJ func63 ?_;exact⟨_,rfl,by rw[decide_eq_true (hno.all hlen Zo)],K0⟩
theorem OD (a:Option Addr)(xs:List E4)(c:Nat)(w:World)(hs:At w a xs)(hl:xs.length≤4294967295):
  Calls prog 48 #[.slice a xs.length c] w (AU (fun v w'=>∃a' c',v= .slice a' xs.length c'∧Ag w' 111 a' c' xs∧(∀b,own a' b→w.heap.size≤b)∧As w w')):=by
 refine Af (n:=8) func48 rfl rfl rfl ?_;refine jG ?_;refine jV (E3 underlying46 rfl rfl) ?_;refine jG ?_;refine Al.cond rfl (fun hc4=> ?_) (fun hc4=> ?_)
 ·skip
  refine jG ?_;refine jJ func48 ?_;have hx:=hs.nil_of hc4;subst hx;exact⟨_,rfl,none,0,rfl,Ag.nil _ _,fun b h=>absurd h (Ad b),(Ao.refl _ w)⟩
 ·skip
  refine jG ?_;refine jR<|AD.buildSlice ([]:List E4) underlying46 ty111 rfl rfl Ze ?_;intro ab ac a0 a4 a5;have a1:=Az (Nat.le_refl _) (Av a0);clear a0;have K0:=(a5:As w _);refine jG ?_;refine jR<|AD.append (xs:=([]:List E4)) (ys:=xs) underlying46 ty111 rfl rfl rfl a4 (hs.ext K0) Zr Zd ?_;intro a2 a6 ad a7 a8 a3 a9;have aa:∀q_,own a2 q_→w.heap.size≤q_:=a3.ge a1 K0.size;clear a3;clear a9;refine jG ?_;refine jJ func48 ?_;replace K0:=K0.new a8 a1;exact⟨_,rfl,a2,a6,by rw[List.nil_append],by simpa using a7,aa,K0⟩
theorem JI (a b:MV)(s t:A6)(w:World)(hR:Dj w s a)(hQ:Dj w t b)(hv:Fl a):
  Calls prog 71 #[.agg #[.slice s.ma a.mrk.length s.mc,.slice s.ca a.cl.length s.cc],.agg #[.slice t.ma b.mrk.length t.mc,.slice t.ca b.cl.length t.cc]] w (AU (fun v w'=>v= .bool (Gt a b)∧As w w')):=by
 have hv0:=hv;obtain⟨hv1,hv2,hv3,hv4,hv5,hv6⟩:=hv;refine Af (n:=17) func71 rfl rfl rfl ?_;refine jG ?_;refine jR<|jB ?_;intro a7 a9 a5 a0 a3;have:w.heap.size≤a7:=a5;clear a5;have K0:=(a3:As w _);refine jR<|jB ?_;intro aa ab a4 a6 a2;have ac:=Aj a0.lt a4;have:=Nat.le_trans K0.size a4;clear a4;replace a0:=a0.ext a2;refine jG ?_;replace hR:=(hR.ext a3).ext a2;replace hQ:=(hQ.ext a3).ext a2;refine jR<|jC (G2 _ _ _ _ _ _ _ (hR).mrk (hQ).mrk Zo) ?_;rintro _ ad ⟨rfl,a1⟩;replace a0:=a0.ext a1;replace a6:=a6.ext a1;refine jG ?_;replace hR:=hR.ext a1;replace hQ:=hQ.ext a1;refine RL.gcall (vals:=[.slice s.ca a.cl.length s.cc,.slice t.ca b.cl.length t.cc]) (A8 rfl rfl rfl rfl) en92.h (fun hg=>(Bm (Bh hg) (Bm (Bh hg) Di))) (fun hg=>(Oz _ _ _ _ _ _ _ (hR).cl (hQ).cl Zo)) ?_;intro ae a8;refine jV (AN rfl rfl rfl) ?_;refine jG ?_;refine jJ func71 ?_;replace K0:=((K0.ext a2).ext a1).ext a8;exact⟨_,rfl,rfl,K0⟩
theorem Nw (a b:MV)(s t:A6)(w:World)(hR:Dj w s a)(hQ:Dj w t b)(hv:Fl a):
  Calls prog 33 #[.agg #[.slice s.ea a.ent.length s.ec,.slice s.ma a.mrk.length s.mc,.slice s.ca a.cl.length s.cc],.agg #[.slice t.ea b.ent.length t.ec,.slice t.ma b.mrk.length t.mc,.slice t.ca b.cl.length t.cc]] w (AU (fun v w'=>v= .bool (EO a b)∧As w w')):=by
 have hv0:=hv;obtain⟨hv1,hv2,hv3,hv4,hv5,hv6⟩:=hv;refine Af (n:=17) func33 rfl rfl rfl ?_;refine jG ?_;refine jR<|jB ?_;intro a7 a9 a5 a0 a3;have:w.heap.size≤a7:=a5;clear a5;have K0:=(a3:As w _);refine jR<|jB ?_;intro aa ab a4 a6 a2;have ac:=Aj a0.lt a4;have:=Nat.le_trans K0.size a4;clear a4;replace a0:=a0.ext a2;refine jG ?_;replace hR:=(hR.ext a3).ext a2;replace hQ:=(hQ.ext a3).ext a2;refine jR<|jC (GZ _ _ _ _ _ _ _ (hR).ent (hQ).ent Zo) ?_;rintro _ ad ⟨rfl,a1⟩;replace a0:=a0.ext a1;replace a6:=a6.ext a1;refine jG ?_;replace hR:=hR.ext a1;replace hQ:=hQ.ext a1;refine RL.gcall (vals:=[.agg #[.slice s.ma a.mrk.length s.mc,.slice s.ca a.cl.length s.cc],.agg #[.slice t.ma b.mrk.length t.mc,.slice t.ca b.cl.length t.cc]]) (A8 rfl rfl rfl rfl) en71.h (fun hg=>(Bm (Bh hg) (Bm (Bh hg) Di))) (fun hg=>(JI a b s t _ hR hQ Za)) ?_;intro ae a8;refine jV (AN rfl rfl rfl) ?_;refine jG ?_;refine jJ func33 ?_;replace K0:=((K0.ext a2).ext a1).ext a8;exact⟨_,rfl,rfl,K0⟩
theorem Nx (a b:MV)(s t:A6)(w:World)(hR:Dj w s a)(hQ:Dj w t b)(hv:Fl a):
  Calls prog 61 #[.agg #[.int .i64 (((An a s).ring).parts),.int .i64 (((An a s).ring).copies),.int .i64 (((An a s).ring).spots),.slice s.ba a.mem.length s.bc],.agg #[.int .i64 (((An b t).ring).parts),.int .i64 (((An b t).ring).copies),.int .i64 (((An b t).ring).spots),.slice t.ba b.mem.length t.bc]] w (AU (fun v w'=>v= .bool (H5 a b)∧As w w')):=by
 have hv0:=hv;obtain⟨hv1,hv2,hv3,hv4,hv5,hv6⟩:=hv;refine Af (n:=31) func61 rfl rfl rfl ?_;refine jG ?_;refine jR<|jB ?_;intro a5 a7 a4 a1 a2;have:w.heap.size≤a5:=a4;clear a4;have K0:=(a2:As w _);refine jR<|jB ?_;intro a8 a9 a3 aa a0;have ab:=Aj a1.lt a3;have:=Nat.le_trans K0.size a3;clear a3;replace a1:=a1.ext a0;refine jG ?_;refine jV (AN rfl rfl rfl) ?_;refine jG ?_;refine jV (AN rfl rfl rfl) ?_;refine jG ?_;replace hR:=(hR.ext a2).ext a0;replace hQ:=(hQ.ext a2).ext a0;refine RL.gcall (vals:=[.slice s.ba a.mem.length s.bc,.slice t.ba b.mem.length t.bc]) (A8 rfl rfl rfl rfl) en83.h (fun hg=>(Bm (Bh hg) (Bm (Bh hg) Di))) (fun hg=>(Nu _ _ _ _ _ _ _ (hR).mem (hQ).mem Zo)) ?_;intro ac a6;refine jV (AN rfl rfl rfl) ?_;refine jG ?_;refine jJ func61 ?_;replace K0:=(K0.ext a0).ext a6;exact⟨_,rfl,rfl,K0⟩
theorem H6 (a b:MV)(s t:A6)(w:World)(hR:Dj w s a)(hQ:Dj w t b)(hv:Fl a):
  Calls prog 23 #[.agg #[.int .i64 ((An a s).kind),.int .i64 ((An a s).frm),.int .i64 ((An a s).to),.int .i64 ((An a s).req),.string ((An a s).key),.slice s.ea a.ent.length s.ec,.slice s.ma a.mrk.length s.mc,.slice s.ca a.cl.length s.cc,.int .i64 ((An a s).owner),.int .i64 ((An a s).part),.int .i64 ((An a s).n),.int .i64 (((An a s).ring).parts),.int .i64 (((An a s).ring).copies),.int .i64 (((An a s).ring).spots),.slice s.ba a.mem.length s.bc,.slice s.pa a.pe.length s.pc,.slice s.sa a.su.length s.sc],.agg #[.int .i64 ((An b t).kind),.int .i64 ((An b t).frm),.int .i64 ((An b t).to),.int .i64 ((An b t).req),.string ((An b t).key),.slice t.ea b.ent.length t.ec,.slice t.ma b.mrk.length t.mc,.slice t.ca b.cl.length t.cc,.int .i64 ((An b t).owner),.int .i64 ((An b t).part),.int .i64 ((An b t).n),.int .i64 (((An b t).ring).parts),.int .i64 (((An b t).ring).copies),.int .i64 (((An b t).ring).spots),.slice t.ba b.mem.length t.bc,.slice t.pa b.pe.length t.pc,.slice t.sa b.su.length t.sc]] w (AU (fun v w'=>v= .bool (decide (a=b))∧As w w')):=by
 have hv0:=hv;obtain⟨hv1,hv2,hv3,hv4,hv5,hv6⟩:=hv;refine Af (n:=85) func23 rfl rfl rfl ?_;refine jG ?_;refine jR<|jB ?_;intro a9 ab a8 a0 a6;have:w.heap.size≤a9:=a8;clear a8;have K0:=(a6:As w _);refine jR<|jB ?_;intro ac ad a7 a1 a5;have ae:=Aj a0.lt a7;have:=Nat.le_trans K0.size a7;clear a7;replace a0:=a0.ext a5;refine jG ?_;refine jV (Ba rfl rfl rfl) ?_;refine jG ?_;refine jV (Ba rfl rfl rfl) ?_;refine jG ?_;refine jV (Ba rfl rfl rfl) ?_;refine jG ?_;refine jW ?_ (hx:=by exact fun hg=>(Mt (Bh hg) (Bh hg)));refine jV (Ba rfl rfl rfl) ?_;refine jG ?_;refine jV (Ba rfl rfl rfl) ?_;refine jG ?_;refine jV (Ba rfl rfl rfl) ?_;refine jG ?_;refine jV (Ba rfl rfl rfl) ?_;refine jG ?_;replace hR:=(hR.ext a6).ext a5;replace hQ:=(hQ.ext a6).ext a5;replace K0:=K0.ext a5;refine jF ?_ ?_
 ·intro hc58
  refine jG ?_;refine jJ func23 ?_;exact⟨_,rfl,by rw[Qj hc58],K0⟩
 ·intro hc58
  refine jG ?_;refine jR<|jC (Nw a b s t _ hR hQ Za) ?_;rintro _ af ⟨rfl,a2⟩;replace a0:=a0.ext a2;replace a1:=a1.ext a2;refine jG ?_;replace hR:=hR.ext a2;replace hQ:=hQ.ext a2;refine RL.gcall (vals:=[.agg #[.int .i64 (((An a s).ring).parts),.int .i64 (((An a s).ring).copies),.int .i64 (((An a s).ring).spots),.slice s.ba a.mem.length s.bc],.agg #[.int .i64 (((An b t).ring).parts),.int .i64 (((An b t).ring).copies),.int .i64 (((An b t).ring).spots),.slice t.ba b.mem.length t.bc]]) (A8 rfl rfl rfl rfl) en61.h (fun hg=>(Bm (Bh hg) (Bm (Bh hg) Di))) (fun hg=>(Nx a b s t _ hR hQ Za)) ?_;intro ag a3;refine jV (AN rfl rfl rfl) ?_;replace a0:=a0.ext a3;replace a1:=a1.ext a3;refine jG ?_;replace hR:=hR.ext a3;replace hQ:=hQ.ext a3;refine RL.gcall (vals:=[.slice s.pa a.pe.length s.pc,.slice t.pa b.pe.length t.pc]) (A8 rfl rfl rfl rfl) en62.h (fun hg=>(Bm (Bh hg) (Bm (Bh hg) Di))) (fun hg=>(OA _ _ _ _ _ _ _ (hR).pe (hQ).pe Zo)) ?_;intro ah a4;refine jV (AN rfl rfl rfl) ?_;replace a0:=a0.ext a4;replace a1:=a1.ext a4;refine jG ?_;replace hR:=hR.ext a4;replace hQ:=hQ.ext a4;refine RL.gcall (vals:=[.slice s.sa a.su.length s.sc,.slice t.sa b.su.length t.sc]) (A8 rfl rfl rfl rfl) en63.h (fun hg=>(Bm (Bh hg) (Bm (Bh hg) Di))) (fun hg=>(OC _ _ _ _ _ _ _ (hR).su (hQ).su Zo)) ?_;intro ai aa;refine jV (AN rfl rfl rfl) ?_;refine jG ?_;refine jJ func23 ?_;replace K0:=(((K0.ext a2).ext a3).ext a4).ext aa;exact⟨_,rfl,by rw[Oy Zm Zm Zm Zm Zm Zm Zm Zm],K0⟩
end Go.Proofs.YtocgdeefgohdhaaGreat
