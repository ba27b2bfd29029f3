/-
  Wb
-/
import Derived.Test.YtocgdeefgohdhaaGreatRows
import Derived.Test.YtocgdeefgohdhaaGreatPkWa
import Derived.Test.YtocgdeefgohdhaaGreatPkI
set_option linter.all false
set_option maxRecDepth 100000
set_option maxHeartbeats 4000000
namespace Go.Proofs.YtocgdeefgohdhaaGreat
attribute [local irreducible] RD RS St1 RL RA RT RT1 Run
open Wa
section
variable {a b:MV}{s t:Six}{w:World}
def sameCtx (a b:MV):Bool:=decide (a.mrk=b.mrk)&&decide (a.cl=b.cl)
def sameCart (a b:MV):Bool:=decide (a.ent=b.ent)&&sameCtx a b
def sameRing (a b:MV):Bool:=(((decide (a.parts=b.parts)&&decide (a.copies=b.copies))&&decide (a.spots=b.spots))&&decide (a.mem=b.mem))
theorem same_no (h:((((((((a.kind≠b.kind)∨(a.frm≠b.frm))∨(a.to≠b.to))∨(a.req≠b.req))∨(a.key≠b.key))∨(a.owner≠b.owner))∨(a.part≠b.part))∨(a.n≠b.n))):decide (a=b)=false:=decide_eq_false fun e=>by subst e;simp at h
theorem same_yes (h1:a.kind=b.kind)(h2:a.frm=b.frm)(h3:a.to=b.to)(h4:a.req=b.req)(h5:a.key=b.key)(h6:a.owner=b.owner)(h7:a.part=b.part)(h8:a.n=b.n):
  (((sameCart a b&&sameRing a b)&&decide (a.pe=b.pe))&&decide (a.su=b.su))=decide (a=b):=by
 rw[Bool.eq_iff_iff]
 simp only[sameCart,sameCtx,sameRing,Bool.and_eq_true,decide_eq_true_eq,MV.iff]
 constructor
 ·rintro⟨⟨⟨⟨q1,q2,q3⟩,⟨⟨q4,q5⟩,q6⟩,q7⟩,q8⟩,q9⟩
  exact⟨h1,h2,h3,h4,h5,h6,h7,h8,q4,q5,q6,q1,q2,q3,q7,q8,q9⟩
 ·rintro⟨_,_,_,_,_,_,_,_,q4,q5,q6,q1,q2,q3,q7,q8,q9⟩
  exact⟨⟨⟨⟨q1,q2,q3⟩,⟨⟨q4,q5⟩,q6⟩,q7⟩,q8⟩,q9⟩
end
attribute [local irreducible] X
theorem equal_ent (a:Option Addr)(xs:List EntryC)(c:Nat)(d:Option Addr)(ys:List EntryC)(e:Nat)(w:World)(hs:SlOf w a xs)(ht:SlOf w d ys)(hl:xs.length≤4294967295):
  Calls Tryz.prog 70 #[.slice (a) (xs.length) (c),.slice (d) (ys.length) (e)] w (Ret (fun v w'=>v= .bool (decide (xs=ys))∧Ext w w')):=by
 refine calls_run (n:=26) Tryz.func70 rfl rfl rfl ?_;refine jG ?_;refine jF ?_ ?_
 ·intro hc10
  refine jG ?_;refine jJ Tryz.func70 ?_;exact⟨_,rfl,by rw[decide_eq_false (fun h=>hc10 (by rw[h]))],(Keeps.refl _ w)⟩
 ·intro hc10
  have hlen:xs.length=ys.length:=by omega
  refine jG ?_;refine Run.loop (ι:=Nat) (fun i ρ' w'=>Holds ρ' [(0,.slice (a) (xs.length) (c)),(1,.slice (d) (ys.length) (e)),(12,.int .i64 (((xs.length:Nat):Int))),(13,.int .i64 (((i:Nat):Int)))]∧Ext w w'∧(i≤xs.length)∧(SameB xs ys i)) (fun i=>xs.length-i) 0 ?_ ?_
  ·refine⟨⟨rfl,rfl,rfl,rfl,trivial⟩,(Keeps.refl _ w),?_,?_⟩
   ·omega
   ·exact SameB.zero _ _
  rintro i a4 a5 ⟨a3,K0,hi,hno⟩ ih1;obtain⟨ρ₀,rfl⟩:=a3.ex;clear a3;refine jG ?_;refine jF ?_ ?_
  ·intro hc14
   refine jG ?_;obtain⟨a6,a7,x,hx,a8,a0⟩:=hs.eo i;have hc_9_lt:=a0.lt;obtain⟨a9,aa,y,hy,ab,a1⟩:=ht.eo i;have hc_15_lt:=a1.lt;refine Run.drawR ?_;intro ac a2;replace a0:=(a0.ext K0).ext a2;replace a1:=(a1.ext K0).ext a2;refine jG ?_;refine jD (x_neA (by kernel_rfl) rfl rfl (eq_EntryC x y)) ?_;refine jG ?_;replace K0:=K0.ext a2;refine jF ?_ ?_
   ·intro hc24
    refine jG ?_;refine jJ Tryz.func70 ?_;exact⟨_,rfl,by rw[decide_eq_false (ne_of_at hx hy hc24)],K0⟩
   ·intro hc24
    refine jG ?_;refine jV (litI (c:=((i+1:Nat):Int)) (x_add rfl rfl (by omega) (by omega)) rfl) ?_;refine jG ?_;refine ih1 (i+1) _ _ ?_ (by omega);refine⟨⟨rfl,rfl,rfl,rfl,trivial⟩,K0,?_,?_⟩
    ·omega
    ·exact hno.step hx hy hc24
  ·intro hc14
   refine jG ?_;refine jJ Tryz.func70 ?_;exact⟨_,rfl,by rw[decide_eq_true (hno.all hlen (by omega))],K0⟩
theorem clone_ent (a:Option Addr)(xs:List EntryC)(c:Nat)(w:World)(hs:SlOf w a xs)(hl:xs.length≤4294967295):
  Calls Tryz.prog 64 #[.slice (a) (xs.length) (c)] w (Ret (fun v w'=>∃a' c',v= .slice a' xs.length c'∧OwnSl w' 89 a' c' xs∧(∀b,own a' b→w.heap.size≤b)∧Ext w w')):=by
 refine calls_run (n:=8) Tryz.func64 rfl rfl rfl ?_;refine jG ?_;refine jV (x_slNil Tryz.underlying23 rfl rfl) ?_;refine jG ?_;refine Run.cond rfl (fun hc4=> ?_) (fun hc4=> ?_)
 ·skip
  refine jG ?_;refine jJ Tryz.func64 ?_;have hx:=hs.nil_of hc4;subst hx;exact⟨_,rfl,none,0,rfl,OwnSl.nil _ _,fun b h=>absurd h (own_none b),(Keeps.refl _ w)⟩
 ·skip
  refine jG ?_;refine jR<|St1.buildSlice ([]:List EntryC) Tryz.underlying23 ty89 rfl rfl (by first|decide|(simp[Enc.size])) ?_;intro ab ac a0 a4 a5;have a1:=geTr (Nat.le_refl _) (ge_new a0);clear a0;have K0:=(a5:Ext w _);refine jG ?_;refine jR<|St1.append (xs:=([]:List EntryC)) (ys:=xs) Tryz.underlying23 ty89 rfl rfl rfl a4 (hs.ext K0) (by first|omega|(simp only[lr];omega)) (by decide) ?_;intro a2 a6 ad a7 a8 a3 a9;have aa:∀q_,own a2 q_→w.heap.size≤q_:=a3.ge a1 K0.size;clear a3;clear a9;refine jG ?_;refine jJ Tryz.func64 ?_;replace K0:=K0.new a8 a1;exact⟨_,rfl,a2,a6,by rw[List.nil_append],by simpa using a7,aa,K0⟩
theorem equal_mrk (a:Option Addr)(xs:List MarkC)(c:Nat)(d:Option Addr)(ys:List MarkC)(e:Nat)(w:World)(hs:SlOf w a xs)(ht:SlOf w d ys)(hl:xs.length≤4294967295):
  Calls Tryz.prog 91 #[.slice (a) (xs.length) (c),.slice (d) (ys.length) (e)] w (Ret (fun v w'=>v= .bool (decide (xs=ys))∧Ext w w')):=by
 refine calls_run (n:=26) Tryz.func91 rfl rfl rfl ?_;refine jG ?_;refine jF ?_ ?_
 ·intro hc10
  refine jG ?_;refine jJ Tryz.func91 ?_;exact⟨_,rfl,by rw[decide_eq_false (fun h=>hc10 (by rw[h]))],(Keeps.refl _ w)⟩
 ·intro hc10
  have hlen:xs.length=ys.length:=by omega
  refine jG ?_;refine Run.loop (ι:=Nat) (fun i ρ' w'=>Holds ρ' [(0,.slice (a) (xs.length) (c)),(1,.slice (d) (ys.length) (e)),(12,.int .i64 (((xs.length:Nat):Int))),(13,.int .i64 (((i:Nat):Int)))]∧Ext w w'∧(i≤xs.length)∧(SameB xs ys i)) (fun i=>xs.length-i) 0 ?_ ?_
  ·refine⟨⟨rfl,rfl,rfl,rfl,trivial⟩,(Keeps.refl _ w),?_,?_⟩
   ·omega
   ·exact SameB.zero _ _
  rintro i a4 a5 ⟨a3,K0,hi,hno⟩ ih1;obtain⟨ρ₀,rfl⟩:=a3.ex;clear a3;refine jG ?_;refine jF ?_ ?_
  ·intro hc14
   refine jG ?_;obtain⟨a6,a7,x,hx,a8,a0⟩:=hs.eo i;have hc_9_lt:=a0.lt;obtain⟨a9,aa,y,hy,ab,a1⟩:=ht.eo i;have hc_15_lt:=a1.lt;refine Run.drawR ?_;intro ac a2;replace a0:=(a0.ext K0).ext a2;replace a1:=(a1.ext K0).ext a2;refine jG ?_;refine jD (x_neA (by kernel_rfl) rfl rfl (eq_MarkC x y)) ?_;refine jG ?_;replace K0:=K0.ext a2;refine jF ?_ ?_
   ·intro hc24
    refine jG ?_;refine jJ Tryz.func91 ?_;exact⟨_,rfl,by rw[decide_eq_false (ne_of_at hx hy hc24)],K0⟩
   ·intro hc24
    refine jG ?_;refine jV (litI (c:=((i+1:Nat):Int)) (x_add rfl rfl (by omega) (by omega)) rfl) ?_;refine jG ?_;refine ih1 (i+1) _ _ ?_ (by omega);refine⟨⟨rfl,rfl,rfl,rfl,trivial⟩,K0,?_,?_⟩
    ·omega
    ·exact hno.step hx hy hc24
  ·intro hc14
   refine jG ?_;refine jJ Tryz.func91 ?_;exact⟨_,rfl,by rw[decide_eq_true (hno.all hlen (by omega))],K0⟩
theorem clone_mrk (a:Option Addr)(xs:List MarkC)(c:Nat)(w:World)(hs:SlOf w a xs)(hl:xs.length≤4294967295):
  Calls Tryz.prog 78 #[.slice (a) (xs.length) (c)] w (Ret (fun v w'=>∃a' c',v= .slice a' xs.length c'∧OwnSl w' 112 a' c' xs∧(∀b,own a' b→w.heap.size≤b)∧Ext w w')):=by
 refine calls_run (n:=8) Tryz.func78 rfl rfl rfl ?_;refine jG ?_;refine jV (x_slNil Tryz.underlying24 rfl rfl) ?_;refine jG ?_;refine Run.cond rfl (fun hc4=> ?_) (fun hc4=> ?_)
 ·skip
  refine jG ?_;refine jJ Tryz.func78 ?_;have hx:=hs.nil_of hc4;subst hx;exact⟨_,rfl,none,0,rfl,OwnSl.nil _ _,fun b h=>absurd h (own_none b),(Keeps.refl _ w)⟩
 ·skip
  refine jG ?_;refine jR<|St1.buildSlice ([]:List MarkC) Tryz.underlying24 ty112 rfl rfl (by first|decide|(simp[Enc.size])) ?_;intro ab ac a0 a4 a5;have a1:=geTr (Nat.le_refl _) (ge_new a0);clear a0;have K0:=(a5:Ext w _);refine jG ?_;refine jR<|St1.append (xs:=([]:List MarkC)) (ys:=xs) Tryz.underlying24 ty112 rfl rfl rfl a4 (hs.ext K0) (by first|omega|(simp only[lr];omega)) (by decide) ?_;intro a2 a6 ad a7 a8 a3 a9;have aa:∀q_,own a2 q_→w.heap.size≤q_:=a3.ge a1 K0.size;clear a3;clear a9;refine jG ?_;refine jJ Tryz.func78 ?_;replace K0:=K0.new a8 a1;exact⟨_,rfl,a2,a6,by rw[List.nil_append],by simpa using a7,aa,K0⟩
theorem equal_cl (a:Option Addr)(xs:List DotC)(c:Nat)(d:Option Addr)(ys:List DotC)(e:Nat)(w:World)(hs:SlOf w a xs)(ht:SlOf w d ys)(hl:xs.length≤4294967295):
  Calls Tryz.prog 92 #[.slice (a) (xs.length) (c),.slice (d) (ys.length) (e)] w (Ret (fun v w'=>v= .bool (decide (xs=ys))∧Ext w w')):=by
 refine calls_run (n:=26) Tryz.func92 rfl rfl rfl ?_;refine jG ?_;refine jF ?_ ?_
 ·intro hc10
  refine jG ?_;refine jJ Tryz.func92 ?_;exact⟨_,rfl,by rw[decide_eq_false (fun h=>hc10 (by rw[h]))],(Keeps.refl _ w)⟩
 ·intro hc10
  have hlen:xs.length=ys.length:=by omega
  refine jG ?_;refine Run.loop (ι:=Nat) (fun i ρ' w'=>Holds ρ' [(0,.slice (a) (xs.length) (c)),(1,.slice (d) (ys.length) (e)),(12,.int .i64 (((xs.length:Nat):Int))),(13,.int .i64 (((i:Nat):Int)))]∧Ext w w'∧(i≤xs.length)∧(SameB xs ys i)) (fun i=>xs.length-i) 0 ?_ ?_
  ·refine⟨⟨rfl,rfl,rfl,rfl,trivial⟩,(Keeps.refl _ w),?_,?_⟩
   ·omega
   ·exact SameB.zero _ _
  rintro i a4 a5 ⟨a3,K0,hi,hno⟩ ih1;obtain⟨ρ₀,rfl⟩:=a3.ex;clear a3;refine jG ?_;refine jF ?_ ?_
  ·intro hc14
   refine jG ?_;obtain⟨a6,a7,x,hx,a8,a0⟩:=hs.eo i;have hc_9_lt:=a0.lt;obtain⟨a9,aa,y,hy,ab,a1⟩:=ht.eo i;have hc_15_lt:=a1.lt;refine Run.drawR ?_;intro ac a2;replace a0:=(a0.ext K0).ext a2;replace a1:=(a1.ext K0).ext a2;refine jG ?_;refine jD (x_neA (by kernel_rfl) rfl rfl (eq_DotC x y)) ?_;refine jG ?_;replace K0:=K0.ext a2;refine jF ?_ ?_
   ·intro hc24
    refine jG ?_;refine jJ Tryz.func92 ?_;exact⟨_,rfl,by rw[decide_eq_false (ne_of_at hx hy hc24)],K0⟩
   ·intro hc24
    refine jG ?_;refine jV (litI (c:=((i+1:Nat):Int)) (x_add rfl rfl (by omega) (by omega)) rfl) ?_;refine jG ?_;refine ih1 (i+1) _ _ ?_ (by omega);refine⟨⟨rfl,rfl,rfl,rfl,trivial⟩,K0,?_,?_⟩
    ·omega
    ·exact hno.step hx hy hc24
  ·intro hc14
   refine jG ?_;refine jJ Tryz.func92 ?_;exact⟨_,rfl,by rw[decide_eq_true (hno.all hlen (by omega))],K0⟩
theorem equal_mem (a:Option Addr)(xs:List MemberC)(c:Nat)(d:Option Addr)(ys:List MemberC)(e:Nat)(w:World)(hs:SlOf w a xs)(ht:SlOf w d ys)(hl:xs.length≤4294967295):
  Calls Tryz.prog 83 #[.slice (a) (xs.length) (c),.slice (d) (ys.length) (e)] w (Ret (fun v w'=>v= .bool (decide (xs=ys))∧Ext w w')):=by
 refine calls_run (n:=26) Tryz.func83 rfl rfl rfl ?_;refine jG ?_;refine jF ?_ ?_
 ·intro hc10
  refine jG ?_;refine jJ Tryz.func83 ?_;exact⟨_,rfl,by rw[decide_eq_false (fun h=>hc10 (by rw[h]))],(Keeps.refl _ w)⟩
 ·intro hc10
  have hlen:xs.length=ys.length:=by omega
  refine jG ?_;refine Run.loop (ι:=Nat) (fun i ρ' w'=>Holds ρ' [(0,.slice (a) (xs.length) (c)),(1,.slice (d) (ys.length) (e)),(12,.int .i64 (((xs.length:Nat):Int))),(13,.int .i64 (((i:Nat):Int)))]∧Ext w w'∧(i≤xs.length)∧(SameB xs ys i)) (fun i=>xs.length-i) 0 ?_ ?_
  ·refine⟨⟨rfl,rfl,rfl,rfl,trivial⟩,(Keeps.refl _ w),?_,?_⟩
   ·omega
   ·exact SameB.zero _ _
  rintro i a4 a5 ⟨a3,K0,hi,hno⟩ ih1;obtain⟨ρ₀,rfl⟩:=a3.ex;clear a3;refine jG ?_;refine jF ?_ ?_
  ·intro hc14
   refine jG ?_;obtain⟨a6,a7,x,hx,a8,a0⟩:=hs.eo i;have hc_9_lt:=a0.lt;obtain⟨a9,aa,y,hy,ab,a1⟩:=ht.eo i;have hc_15_lt:=a1.lt;refine Run.drawR ?_;intro ac a2;replace a0:=(a0.ext K0).ext a2;replace a1:=(a1.ext K0).ext a2;refine jG ?_;refine jD (x_neA (by kernel_rfl) rfl rfl (eq_MemberC x y)) ?_;refine jG ?_;replace K0:=K0.ext a2;refine jF ?_ ?_
   ·intro hc24
    refine jG ?_;refine jJ Tryz.func83 ?_;exact⟨_,rfl,by rw[decide_eq_false (ne_of_at hx hy hc24)],K0⟩
   ·intro hc24
    refine jG ?_;refine jV (litI (c:=((i+1:Nat):Int)) (x_add rfl rfl (by omega) (by omega)) rfl) ?_;refine jG ?_;refine ih1 (i+1) _ _ ?_ (by omega);refine⟨⟨rfl,rfl,rfl,rfl,trivial⟩,K0,?_,?_⟩
    ·omega
    ·exact hno.step hx hy hc24
  ·intro hc14
   refine jG ?_;refine jJ Tryz.func83 ?_;exact⟨_,rfl,by rw[decide_eq_true (hno.all hlen (by omega))],K0⟩
theorem clone_mem (a:Option Addr)(xs:List MemberC)(c:Nat)(w:World)(hs:SlOf w a xs)(hl:xs.length≤4294967295):
  Calls Tryz.prog 80 #[.slice (a) (xs.length) (c)] w (Ret (fun v w'=>∃a' c',v= .slice a' xs.length c'∧OwnSl w' 131 a' c' xs∧(∀b,own a' b→w.heap.size≤b)∧Ext w w')):=by
 refine calls_run (n:=8) Tryz.func80 rfl rfl rfl ?_;refine jG ?_;refine jV (x_slNil Tryz.underlying42 rfl rfl) ?_;refine jG ?_;refine Run.cond rfl (fun hc4=> ?_) (fun hc4=> ?_)
 ·skip
  refine jG ?_;refine jJ Tryz.func80 ?_;have hx:=hs.nil_of hc4;subst hx;exact⟨_,rfl,none,0,rfl,OwnSl.nil _ _,fun b h=>absurd h (own_none b),(Keeps.refl _ w)⟩
 ·skip
  refine jG ?_;refine jR<|St1.buildSlice ([]:List MemberC) Tryz.underlying42 ty131 rfl rfl (by first|decide|(simp[Enc.size])) ?_;intro ab ac a0 a4 a5;have a1:=geTr (Nat.le_refl _) (ge_new a0);clear a0;have K0:=(a5:Ext w _);refine jG ?_;refine jR<|St1.append (xs:=([]:List MemberC)) (ys:=xs) Tryz.underlying42 ty131 rfl rfl rfl a4 (hs.ext K0) (by first|omega|(simp only[lr];omega)) (by decide) ?_;intro a2 a6 ad a7 a8 a3 a9;have aa:∀q_,own a2 q_→w.heap.size≤q_:=a3.ge a1 K0.size;clear a3;clear a9;refine jG ?_;refine jJ Tryz.func80 ?_;replace K0:=K0.new a8 a1;exact⟨_,rfl,a2,a6,by rw[List.nil_append],by simpa using a7,aa,K0⟩
theorem equal_pe (a:Option Addr)(xs:List PeerC)(c:Nat)(d:Option Addr)(ys:List PeerC)(e:Nat)(w:World)(hs:SlOf w a xs)(ht:SlOf w d ys)(hl:xs.length≤4294967295):
  Calls Tryz.prog 62 #[.slice (a) (xs.length) (c),.slice (d) (ys.length) (e)] w (Ret (fun v w'=>v= .bool (decide (xs=ys))∧Ext w w')):=by
 refine calls_run (n:=26) Tryz.func62 rfl rfl rfl ?_;refine jG ?_;refine jF ?_ ?_
 ·intro hc10
  refine jG ?_;refine jJ Tryz.func62 ?_;exact⟨_,rfl,by rw[decide_eq_false (fun h=>hc10 (by rw[h]))],(Keeps.refl _ w)⟩
 ·intro hc10
  have hlen:xs.length=ys.length:=by omega
  refine jG ?_;refine Run.loop (ι:=Nat) (fun i ρ' w'=>Holds ρ' [(0,.slice (a) (xs.length) (c)),(1,.slice (d) (ys.length) (e)),(12,.int .i64 (((xs.length:Nat):Int))),(13,.int .i64 (((i:Nat):Int)))]∧Ext w w'∧(i≤xs.length)∧(SameB xs ys i)) (fun i=>xs.length-i) 0 ?_ ?_
  ·refine⟨⟨rfl,rfl,rfl,rfl,trivial⟩,(Keeps.refl _ w),?_,?_⟩
   ·omega
   ·exact SameB.zero _ _
  rintro i a4 a5 ⟨a3,K0,hi,hno⟩ ih1;obtain⟨ρ₀,rfl⟩:=a3.ex;clear a3;refine jG ?_;refine jF ?_ ?_
  ·intro hc14
   refine jG ?_;obtain⟨a6,a7,x,hx,a8,a0⟩:=hs.eo i;have hc_9_lt:=a0.lt;obtain⟨a9,aa,y,hy,ab,a1⟩:=ht.eo i;have hc_15_lt:=a1.lt;refine Run.drawR ?_;intro ac a2;replace a0:=(a0.ext K0).ext a2;replace a1:=(a1.ext K0).ext a2;refine jG ?_;refine jD (x_neA (by kernel_rfl) rfl rfl (eq_PeerC x y)) ?_;refine jG ?_;replace K0:=K0.ext a2;refine jF ?_ ?_
   ·intro hc24
    refine jG ?_;refine jJ Tryz.func62 ?_;exact⟨_,rfl,by rw[decide_eq_false (ne_of_at hx hy hc24)],K0⟩
   ·intro hc24
    refine jG ?_;refine jV (litI (c:=((i+1:Nat):Int)) (x_add rfl rfl (by omega) (by omega)) rfl) ?_;refine jG ?_;refine ih1 (i+1) _ _ ?_ (by omega);refine⟨⟨rfl,rfl,rfl,rfl,trivial⟩,K0,?_,?_⟩
    ·omega
    ·exact hno.step hx hy hc24
  ·intro hc14
   refine jG ?_;refine jJ Tryz.func62 ?_;exact⟨_,rfl,by rw[decide_eq_true (hno.all hlen (by omega))],K0⟩
theorem clone_pe (a:Option Addr)(xs:List PeerC)(c:Nat)(w:World)(hs:SlOf w a xs)(hl:xs.length≤4294967295):
  Calls Tryz.prog 47 #[.slice (a) (xs.length) (c)] w (Ret (fun v w'=>∃a' c',v= .slice a' xs.length c'∧OwnSl w' 108 a' c' xs∧(∀b,own a' b→w.heap.size≤b)∧Ext w w')):=by
 refine calls_run (n:=8) Tryz.func47 rfl rfl rfl ?_;refine jG ?_;refine jV (x_slNil Tryz.underlying45 rfl rfl) ?_;refine jG ?_;refine Run.cond rfl (fun hc4=> ?_) (fun hc4=> ?_)
 ·skip
  refine jG ?_;refine jJ Tryz.func47 ?_;have hx:=hs.nil_of hc4;subst hx;exact⟨_,rfl,none,0,rfl,OwnSl.nil _ _,fun b h=>absurd h (own_none b),(Keeps.refl _ w)⟩
 ·skip
  refine jG ?_;refine jR<|St1.buildSlice ([]:List PeerC) Tryz.underlying45 ty108 rfl rfl (by first|decide|(simp[Enc.size])) ?_;intro ab ac a0 a4 a5;have a1:=geTr (Nat.le_refl _) (ge_new a0);clear a0;have K0:=(a5:Ext w _);refine jG ?_;refine jR<|St1.append (xs:=([]:List PeerC)) (ys:=xs) Tryz.underlying45 ty108 rfl rfl rfl a4 (hs.ext K0) (by first|omega|(simp only[lr];omega)) (by decide) ?_;intro a2 a6 ad a7 a8 a3 a9;have aa:∀q_,own a2 q_→w.heap.size≤q_:=a3.ge a1 K0.size;clear a3;clear a9;refine jG ?_;refine jJ Tryz.func47 ?_;replace K0:=K0.new a8 a1;exact⟨_,rfl,a2,a6,by rw[List.nil_append],by simpa using a7,aa,K0⟩
theorem equal_su (a:Option Addr)(xs:List SumC)(c:Nat)(d:Option Addr)(ys:List SumC)(e:Nat)(w:World)(hs:SlOf w a xs)(ht:SlOf w d ys)(hl:xs.length≤4294967295):
  Calls Tryz.prog 63 #[.slice (a) (xs.length) (c),.slice (d) (ys.length) (e)] w (Ret (fun v w'=>v= .bool (decide (xs=ys))∧Ext w w')):=by
 refine calls_run (n:=26) Tryz.func63 rfl rfl rfl ?_;refine jG ?_;refine jF ?_ ?_
 ·intro hc10
  refine jG ?_;refine jJ Tryz.func63 ?_;exact⟨_,rfl,by rw[decide_eq_false (fun h=>hc10 (by rw[h]))],(Keeps.refl _ w)⟩
 ·intro hc10
  have hlen:xs.length=ys.length:=by omega
  refine jG ?_;refine Run.loop (ι:=Nat) (fun i ρ' w'=>Holds ρ' [(0,.slice (a) (xs.length) (c)),(1,.slice (d) (ys.length) (e)),(12,.int .i64 (((xs.length:Nat):Int))),(13,.int .i64 (((i:Nat):Int)))]∧Ext w w'∧(i≤xs.length)∧(SameB xs ys i)) (fun i=>xs.length-i) 0 ?_ ?_
  ·refine⟨⟨rfl,rfl,rfl,rfl,trivial⟩,(Keeps.refl _ w),?_,?_⟩
   ·omega
   ·exact SameB.zero _ _
  rintro i a4 a5 ⟨a3,K0,hi,hno⟩ ih1;obtain⟨ρ₀,rfl⟩:=a3.ex;clear a3;refine jG ?_;refine jF ?_ ?_
  ·intro hc14
   refine jG ?_;obtain⟨a6,a7,x,hx,a8,a0⟩:=hs.eo i;have hc_9_lt:=a0.lt;obtain⟨a9,aa,y,hy,ab,a1⟩:=ht.eo i;have hc_15_lt:=a1.lt;refine Run.drawR ?_;intro ac a2;replace a0:=(a0.ext K0).ext a2;replace a1:=(a1.ext K0).ext a2;refine jG ?_;refine jD (x_neA (by kernel_rfl) rfl rfl (eq_SumC x y)) ?_;refine jG ?_;replace K0:=K0.ext a2;refine jF ?_ ?_
   ·intro hc24
    refine jG ?_;refine jJ Tryz.func63 ?_;exact⟨_,rfl,by rw[decide_eq_false (ne_of_at hx hy hc24)],K0⟩
   ·intro hc24
    refine jG ?_;refine jV (litI (c:=((i+1:Nat):Int)) (x_add rfl rfl (by omega) (by omega)) rfl) ?_;refine jG ?_;refine ih1 (i+1) _ _ ?_ (by omega);refine⟨⟨rfl,rfl,rfl,rfl,trivial⟩,K0,?_,?_⟩
    ·omega
    ·exact hno.step hx hy hc24
  ·intro hc14
   refine jG ?_;refine jJ Tryz.func63 ?_;exact⟨_,rfl,by rw[decide_eq_true (hno.all hlen (by omega))],K0⟩
theorem clone_su (a:Option Addr)(xs:List SumC)(c:Nat)(w:World)(hs:SlOf w a xs)(hl:xs.length≤4294967295):
  Calls Tryz.prog 48 #[.slice (a) (xs.length) (c)] w (Ret (fun v w'=>∃a' c',v= .slice a' xs.length c'∧OwnSl w' 111 a' c' xs∧(∀b,own a' b→w.heap.size≤b)∧Ext w w')):=by
 refine calls_run (n:=8) Tryz.func48 rfl rfl rfl ?_;refine jG ?_;refine jV (x_slNil Tryz.underlying46 rfl rfl) ?_;refine jG ?_;refine Run.cond rfl (fun hc4=> ?_) (fun hc4=> ?_)
 ·skip
  refine jG ?_;refine jJ Tryz.func48 ?_;have hx:=hs.nil_of hc4;subst hx;exact⟨_,rfl,none,0,rfl,OwnSl.nil _ _,fun b h=>absurd h (own_none b),(Keeps.refl _ w)⟩
 ·skip
  refine jG ?_;refine jR<|St1.buildSlice ([]:List SumC) Tryz.underlying46 ty111 rfl rfl (by first|decide|(simp[Enc.size])) ?_;intro ab ac a0 a4 a5;have a1:=geTr (Nat.le_refl _) (ge_new a0);clear a0;have K0:=(a5:Ext w _);refine jG ?_;refine jR<|St1.append (xs:=([]:List SumC)) (ys:=xs) Tryz.underlying46 ty111 rfl rfl rfl a4 (hs.ext K0) (by first|omega|(simp only[lr];omega)) (by decide) ?_;intro a2 a6 ad a7 a8 a3 a9;have aa:∀q_,own a2 q_→w.heap.size≤q_:=a3.ge a1 K0.size;clear a3;clear a9;refine jG ?_;refine jJ Tryz.func48 ?_;replace K0:=K0.new a8 a1;exact⟨_,rfl,a2,a6,by rw[List.nil_append],by simpa using a7,aa,K0⟩
theorem sameContext_ (a b:MV)(s t:Six)(w:World)(hR:SixR w s a)(hQ:SixR w t b)(hv:VOk a):
  Calls Tryz.prog 71 #[.agg #[.slice (s.ma) (a.mrk.length) (s.mc),.slice (s.ca) (a.cl.length) (s.cc)],.agg #[.slice (t.ma) (b.mrk.length) (t.mc),.slice (t.ca) (b.cl.length) (t.cc)]] w (Ret (fun v w'=>v= .bool (sameCtx a b)∧Ext w w')):=by
 have hv0:=hv;obtain⟨hv1,hv2,hv3,hv4,hv5,hv6⟩:=hv;refine calls_run (n:=17) Tryz.func71 rfl rfl rfl ?_;refine jG ?_;refine jR<|jB ?_;intro a7 a9 a5 a0 a3;have:w.heap.size≤a7:=a5;clear a5;have K0:=(a3:Ext w _);refine jR<|jB ?_;intro aa ab a4 a6 a2;have ac:=ltLe a0.lt a4;have:=Nat.le_trans K0.size a4;clear a4;replace a0:=a0.ext a2;refine jG ?_;replace hR:=(hR.ext a3).ext a2;replace hQ:=(hQ.ext a3).ext a2;refine jR<|jC (equal_mrk _ _ _ _ _ _ _ (hR).mrk (hQ).mrk (by omega)) ?_;rintro _ ad ⟨rfl,a1⟩;replace a0:=a0.ext a1;replace a6:=a6.ext a1;refine jG ?_;replace hR:=hR.ext a1;replace hQ:=hQ.ext a1;refine RL.gcall (vals:=[.slice (s.ca) (a.cl.length) (s.cc),.slice (t.ca) (b.cl.length) (t.cc)]) (wantedT rfl rfl rfl rfl) en92.h (fun hg=>(mcons (gvr hg) (mcons (gvr hg) mnil))) (fun hg=>(equal_cl _ _ _ _ _ _ _ (hR).cl (hQ).cl (by omega))) ?_;intro ae a8;refine jV (x_and rfl rfl rfl) ?_;refine jG ?_;refine jJ Tryz.func71 ?_;replace K0:=((K0.ext a2).ext a1).ext a8;exact⟨_,rfl,rfl,K0⟩
theorem sameCart_ (a b:MV)(s t:Six)(w:World)(hR:SixR w s a)(hQ:SixR w t b)(hv:VOk a):
  Calls Tryz.prog 33 #[.agg #[.slice (s.ea) (a.ent.length) (s.ec),.slice (s.ma) (a.mrk.length) (s.mc),.slice (s.ca) (a.cl.length) (s.cc)],.agg #[.slice (t.ea) (b.ent.length) (t.ec),.slice (t.ma) (b.mrk.length) (t.mc),.slice (t.ca) (b.cl.length) (t.cc)]] w (Ret (fun v w'=>v= .bool (sameCart a b)∧Ext w w')):=by
 have hv0:=hv;obtain⟨hv1,hv2,hv3,hv4,hv5,hv6⟩:=hv;refine calls_run (n:=17) Tryz.func33 rfl rfl rfl ?_;refine jG ?_;refine jR<|jB ?_;intro a7 a9 a5 a0 a3;have:w.heap.size≤a7:=a5;clear a5;have K0:=(a3:Ext w _);refine jR<|jB ?_;intro aa ab a4 a6 a2;have ac:=ltLe a0.lt a4;have:=Nat.le_trans K0.size a4;clear a4;replace a0:=a0.ext a2;refine jG ?_;replace hR:=(hR.ext a3).ext a2;replace hQ:=(hQ.ext a3).ext a2;refine jR<|jC (equal_ent _ _ _ _ _ _ _ (hR).ent (hQ).ent (by omega)) ?_;rintro _ ad ⟨rfl,a1⟩;replace a0:=a0.ext a1;replace a6:=a6.ext a1;refine jG ?_;replace hR:=hR.ext a1;replace hQ:=hQ.ext a1;refine RL.gcall (vals:=[.agg #[.slice (s.ma) (a.mrk.length) (s.mc),.slice (s.ca) (a.cl.length) (s.cc)],.agg #[.slice (t.ma) (b.mrk.length) (t.mc),.slice (t.ca) (b.cl.length) (t.cc)]]) (wantedT rfl rfl rfl rfl) en71.h (fun hg=>(mcons (gvr hg) (mcons (gvr hg) mnil))) (fun hg=>(sameContext_ a b s t _ hR hQ (by assumption))) ?_;intro ae a8;refine jV (x_and rfl rfl rfl) ?_;refine jG ?_;refine jJ Tryz.func33 ?_;replace K0:=((K0.ext a2).ext a1).ext a8;exact⟨_,rfl,rfl,K0⟩
theorem sameRing_ (a b:MV)(s t:Six)(w:World)(hR:SixR w s a)(hQ:SixR w t b)(hv:VOk a):
  Calls Tryz.prog 61 #[.agg #[.int .i64 (((mkC a s).ring).parts),.int .i64 (((mkC a s).ring).copies),.int .i64 (((mkC a s).ring).spots),.slice (s.ba) (a.mem.length) (s.bc)],.agg #[.int .i64 (((mkC b t).ring).parts),.int .i64 (((mkC b t).ring).copies),.int .i64 (((mkC b t).ring).spots),.slice (t.ba) (b.mem.length) (t.bc)]] w (Ret (fun v w'=>v= .bool (sameRing a b)∧Ext w w')):=by
 have hv0:=hv;obtain⟨hv1,hv2,hv3,hv4,hv5,hv6⟩:=hv;refine calls_run (n:=31) Tryz.func61 rfl rfl rfl ?_;refine jG ?_;refine jR<|jB ?_;intro a5 a7 a4 a1 a2;have:w.heap.size≤a5:=a4;clear a4;have K0:=(a2:Ext w _);refine jR<|jB ?_;intro a8 a9 a3 aa a0;have ab:=ltLe a1.lt a3;have:=Nat.le_trans K0.size a3;clear a3;replace a1:=a1.ext a0;refine jG ?_;refine jV (x_and rfl rfl rfl) ?_;refine jG ?_;refine jV (x_and rfl rfl rfl) ?_;refine jG ?_;replace hR:=(hR.ext a2).ext a0;replace hQ:=(hQ.ext a2).ext a0;refine RL.gcall (vals:=[.slice (s.ba) (a.mem.length) (s.bc),.slice (t.ba) (b.mem.length) (t.bc)]) (wantedT rfl rfl rfl rfl) en83.h (fun hg=>(mcons (gvr hg) (mcons (gvr hg) mnil))) (fun hg=>(equal_mem _ _ _ _ _ _ _ (hR).mem (hQ).mem (by omega))) ?_;intro ac a6;refine jV (x_and rfl rfl rfl) ?_;refine jG ?_;refine jJ Tryz.func61 ?_;replace K0:=(K0.ext a0).ext a6;exact⟨_,rfl,rfl,K0⟩
theorem sameMsg_ (a b:MV)(s t:Six)(w:World)(hR:SixR w s a)(hQ:SixR w t b)(hv:VOk a):
  Calls Tryz.prog 23 #[.agg #[.int .i64 (((mkC a s)).kind),.int .i64 (((mkC a s)).frm),.int .i64 (((mkC a s)).to),.int .i64 (((mkC a s)).req),.string (((mkC a s)).key),.slice (s.ea) (a.ent.length) (s.ec),.slice (s.ma) (a.mrk.length) (s.mc),.slice (s.ca) (a.cl.length) (s.cc),.int .i64 (((mkC a s)).owner),.int .i64 (((mkC a s)).part),.int .i64 (((mkC a s)).n),.int .i64 ((((mkC a s)).ring).parts),.int .i64 ((((mkC a s)).ring).copies),.int .i64 ((((mkC a s)).ring).spots),.slice (s.ba) (a.mem.length) (s.bc),.slice (s.pa) (a.pe.length) (s.pc),.slice (s.sa) (a.su.length) (s.sc)],.agg #[.int .i64 (((mkC b t)).kind),.int .i64 (((mkC b t)).frm),.int .i64 (((mkC b t)).to),.int .i64 (((mkC b t)).req),.string (((mkC b t)).key),.slice (t.ea) (b.ent.length) (t.ec),.slice (t.ma) (b.mrk.length) (t.mc),.slice (t.ca) (b.cl.length) (t.cc),.int .i64 (((mkC b t)).owner),.int .i64 (((mkC b t)).part),.int .i64 (((mkC b t)).n),.int .i64 ((((mkC b t)).ring).parts),.int .i64 ((((mkC b t)).ring).copies),.int .i64 ((((mkC b t)).ring).spots),.slice (t.ba) (b.mem.length) (t.bc),.slice (t.pa) (b.pe.length) (t.pc),.slice (t.sa) (b.su.length) (t.sc)]] w (Ret (fun v w'=>v= .bool (decide (a=b))∧Ext w w')):=by
 have hv0:=hv;obtain⟨hv1,hv2,hv3,hv4,hv5,hv6⟩:=hv;refine calls_run (n:=85) Tryz.func23 rfl rfl rfl ?_;refine jG ?_;refine jR<|jB ?_;intro a9 ab a8 a0 a6;have:w.heap.size≤a9:=a8;clear a8;have K0:=(a6:Ext w _);refine jR<|jB ?_;intro ac ad a7 a1 a5;have ae:=ltLe a0.lt a7;have:=Nat.le_trans K0.size a7;clear a7;replace a0:=a0.ext a5;refine jG ?_;refine jV (x_or rfl rfl rfl) ?_;refine jG ?_;refine jV (x_or rfl rfl rfl) ?_;refine jG ?_;refine jV (x_or rfl rfl rfl) ?_;refine jG ?_;refine jW ?_ (hx:=by exact fun hg=>(x_neS (gvr hg) (gvr hg)));refine jV (x_or rfl rfl rfl) ?_;refine jG ?_;refine jV (x_or rfl rfl rfl) ?_;refine jG ?_;refine jV (x_or rfl rfl rfl) ?_;refine jG ?_;refine jV (x_or rfl rfl rfl) ?_;refine jG ?_;replace hR:=(hR.ext a6).ext a5;replace hQ:=(hQ.ext a6).ext a5;replace K0:=K0.ext a5;refine jF ?_ ?_
 ·intro hc58
  refine jG ?_;refine jJ Tryz.func23 ?_;exact⟨_,rfl,by rw[same_no hc58],K0⟩
 ·intro hc58
  refine jG ?_;refine jR<|jC (sameCart_ a b s t _ hR hQ (by assumption)) ?_;rintro _ af ⟨rfl,a2⟩;replace a0:=a0.ext a2;replace a1:=a1.ext a2;refine jG ?_;replace hR:=hR.ext a2;replace hQ:=hQ.ext a2;refine RL.gcall (vals:=[.agg #[.int .i64 ((((mkC a s)).ring).parts),.int .i64 ((((mkC a s)).ring).copies),.int .i64 ((((mkC a s)).ring).spots),.slice (s.ba) (a.mem.length) (s.bc)],.agg #[.int .i64 ((((mkC b t)).ring).parts),.int .i64 ((((mkC b t)).ring).copies),.int .i64 ((((mkC b t)).ring).spots),.slice (t.ba) (b.mem.length) (t.bc)]]) (wantedT rfl rfl rfl rfl) en61.h (fun hg=>(mcons (gvr hg) (mcons (gvr hg) mnil))) (fun hg=>(sameRing_ a b s t _ hR hQ (by assumption))) ?_;intro ag a3;refine jV (x_and rfl rfl rfl) ?_;replace a0:=a0.ext a3;replace a1:=a1.ext a3;refine jG ?_;replace hR:=hR.ext a3;replace hQ:=hQ.ext a3;refine RL.gcall (vals:=[.slice (s.pa) (a.pe.length) (s.pc),.slice (t.pa) (b.pe.length) (t.pc)]) (wantedT rfl rfl rfl rfl) en62.h (fun hg=>(mcons (gvr hg) (mcons (gvr hg) mnil))) (fun hg=>(equal_pe _ _ _ _ _ _ _ (hR).pe (hQ).pe (by omega))) ?_;intro ah a4;refine jV (x_and rfl rfl rfl) ?_;replace a0:=a0.ext a4;replace a1:=a1.ext a4;refine jG ?_;replace hR:=hR.ext a4;replace hQ:=hQ.ext a4;refine RL.gcall (vals:=[.slice (s.sa) (a.su.length) (s.sc),.slice (t.sa) (b.su.length) (t.sc)]) (wantedT rfl rfl rfl rfl) en63.h (fun hg=>(mcons (gvr hg) (mcons (gvr hg) mnil))) (fun hg=>(equal_su _ _ _ _ _ _ _ (hR).su (hQ).su (by omega))) ?_;intro ai aa;refine jV (x_and rfl rfl rfl) ?_;refine jG ?_;refine jJ Tryz.func23 ?_;replace K0:=(((K0.ext a2).ext a3).ext a4).ext aa;exact⟨_,rfl,by rw[same_yes (by simp_all) (by simp_all) (by simp_all) (by simp_all) (by simp_all) (by simp_all) (by simp_all) (by simp_all)],K0⟩
end Go.Proofs.YtocgdeefgohdhaaGreat
