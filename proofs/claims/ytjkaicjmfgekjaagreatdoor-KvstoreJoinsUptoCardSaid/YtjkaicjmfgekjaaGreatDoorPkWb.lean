/-
  Wb
-/
import Derived.Test.YtjkaicjmfgekjaaGreatDoorRows
import Derived.Test.YtjkaicjmfgekjaaGreatDoorPkWa
import Derived.Test.YtjkaicjmfgekjaaGreatDoorPkI
set_option linter.all false
set_option maxRecDepth 100000
set_option maxHeartbeats 4000000
namespace Go.Proofs.YtjkaicjmfgekjaaGreatDoor
open Go.Proofs.Tryz
attribute [local irreducible] RD RS Av RL RA RT CJ Aj
open Wa
section
variable {a b:MV}{s t:FE}{w:World}
def La (a b:MV):Bool:=decide (a.mrk=b.mrk)&&decide (a.cl=b.cl)
def Eo (a b:MV):Bool:=decide (a.ent=b.ent)&&La a b
def sameRing (a b:MV):Bool:=(((decide (a.parts=b.parts)&&decide (a.copies=b.copies))&&decide (a.spots=b.spots))&&decide (a.mem=b.mem))
end
attribute [local irreducible] X
theorem PN (a:Option Addr)(xs:List Ag)(c:Nat)(x:Ag)(w:World)(hs:As w a xs)(hl:xs.length≤4294967295):
  Calls prog 208 #[.slice a xs.length c,.agg #[.string ((x).item),.int .i64 (((x).dot).node),.int .i64 (((x).dot).life),.int .i64 (((x).dot).count),.int .i64 ((x).qty),.int .u64 ((x).price)]] w (AS (fun v w'=>v= .int .i64 (HT (x==·) xs)∧Aq w w')):=by
 refine Ae (n:=19) func208 rfl rfl rfl ?_;refine jG ?_;refine jR<|jB ?_;intro a1 a7 a4 a0 a6;have:w.heap.size≤a1:=a4;clear a4;have K0:=(a6:Aq w _);refine jG ?_;refine Aj.loop (ι:=Nat) (fun i ρ' w'=>Holds ρ' [(0,.slice a xs.length c),(3,jp a1),(7,.int .i64 ((xs.length:Nat):Int)),(8,.int .i64 ((i:Nat):Int))]∧Aq w w'∧(AA w' a1 [.string ((x).item),.int .i64 (((x).dot).node),.int .i64 (((x).dot).life),.int .i64 (((x).dot).count),.int .i64 ((x).qty),.int .u64 ((x).price)] 76)∧(i≤xs.length)∧(EF (x==·) xs i)) (fun i=>xs.length-i) 0 ?_ ?_
 ·refine⟨⟨rfl,rfl,rfl,rfl,trivial⟩,K0,a0,?_,?_⟩
  ·omega
  ·exact EF.zero _ _
 clear a0;clear K0;rintro i a8 a9 ⟨a5,K0,a0,hi,hno⟩ ih1;obtain⟨ρ₀,rfl⟩:=a5.ex;clear a5;refine jG ?_;refine jF ?_ ?_
 ·intro hc9
  refine jG ?_;obtain⟨aa,ab,e,hx,ac,a2⟩:=hs.eo i;have hc_14_lt:=a2.lt;refine Aj.drawR ?_;intro ad a3;replace a2:=(a2.ext K0).ext a3;replace a0:=a0.ext a3;refine jG ?_;refine jD (EC Zk rfl rfl (E3 x e)) ?_;refine jG ?_;replace K0:=K0.ext a3;refine jF ?_ ?_
  ·intro hc16
   refine jG ?_;refine jJ func208 ?_;exact⟨_,rfl,by rw[LL hx (by simpa using hc16) hno],K0⟩
  ·intro hc16
   refine jG ?_;refine jV (At (c:=((i+1:Nat):Int)) (An rfl rfl Zo Zo) rfl) ?_;refine jG ?_;refine ih1 (i+1) _ _ ?_ Zo;refine⟨⟨rfl,rfl,rfl,rfl,trivial⟩,K0,a0,?_,?_⟩
   ·omega
   ·exact hno.step hx (by simpa using hc16)
 ·intro hc9
  refine jG ?_;refine jJ func208 ?_;exact⟨_,rfl,by rw[LM hno Zo],K0⟩
theorem G2 (a:Option Addr)(xs:List Ag)(c:Nat)(x:Ag)(w:World)(hs:As w a xs)(hl:xs.length≤4294967295):
  Calls prog 150 #[.slice a xs.length c,.agg #[.string ((x).item),.int .i64 (((x).dot).node),.int .i64 (((x).dot).life),.int .i64 (((x).dot).count),.int .i64 ((x).qty),.int .u64 ((x).price)]] w (AS (fun v w'=>v= .bool (xs.any (x==·))∧Aq w w')):=by
 refine Ae (n:=9) func150 rfl rfl rfl ?_;refine jG ?_;refine jR<|jB ?_;intro a1 a4 a0 a5 a2;have:w.heap.size≤a1:=a0;clear a0;have K0:=(a2:Aq w _);refine jG ?_;refine jR<|jC (PN _ _ _ x _ (hs.ext K0) Zo) ?_;rintro _ a6 ⟨rfl,a3⟩;refine jG ?_;refine jJ func150 ?_;replace K0:=K0.ext a3;exact⟨_,rfl,by rw[LN],K0⟩
theorem Kk (a:Option Addr)(xs:List Ag)(c:Nat)(d:Option Addr)(ys:List Ag)(e:Nat)(w:World)(hs:As w a xs)(ht:As w d ys)(hl:xs.length≤4294967295):
  Calls prog 44 #[.slice a xs.length c,.slice d ys.length e] w (AS (fun v w'=>v= .bool (decide (xs=ys))∧Aq w w')):=by
 refine Ae (n:=26) func44 rfl rfl rfl ?_;refine jG ?_;refine jF ?_ ?_
 ·intro hc10
  refine jG ?_;refine jJ func44 ?_;exact⟨_,rfl,by rw[decide_eq_false (fun h=>hc10 (by rw[h]))],(Ah.refl _ w)⟩
 ·intro hc10
  have hlen:xs.length=ys.length:=by omega
  refine jG ?_;refine Aj.loop (ι:=Nat) (fun i ρ' w'=>Holds ρ' [(0,.slice a xs.length c),(1,.slice d ys.length e),(12,.int .i64 ((xs.length:Nat):Int)),(13,.int .i64 ((i:Nat):Int))]∧Aq w w'∧(i≤xs.length)∧(EU xs ys i)) (fun i=>xs.length-i) 0 ?_ ?_
  ·refine⟨⟨rfl,rfl,rfl,rfl,trivial⟩,(Ah.refl _ w),?_,?_⟩
   ·omega
   ·exact EU.zero _ _
  rintro i a4 a5 ⟨a3,K0,hi,hno⟩ ih1;obtain⟨ρ₀,rfl⟩:=a3.ex;clear a3;refine jG ?_;refine jF ?_ ?_
  ·intro hc14
   refine jG ?_;obtain⟨a6,a7,x,hx,a8,a0⟩:=hs.eo i;have hc_9_lt:=a0.lt;obtain⟨a9,aa,y,hy,ab,a1⟩:=ht.eo i;have hc_15_lt:=a1.lt;refine Aj.drawR ?_;intro ac a2;replace a0:=(a0.ext K0).ext a2;replace a1:=(a1.ext K0).ext a2;refine jG ?_;refine jD (JQ Zk rfl rfl (E3 x y)) ?_;refine jG ?_;replace K0:=K0.ext a2;refine jF ?_ ?_
   ·intro hc24
    refine jG ?_;refine jJ func44 ?_;exact⟨_,rfl,by rw[decide_eq_false (IK hx hy hc24)],K0⟩
   ·intro hc24
    refine jG ?_;refine jV (At (c:=((i+1:Nat):Int)) (An rfl rfl Zo Zo) rfl) ?_;refine jG ?_;refine ih1 (i+1) _ _ ?_ Zo;refine⟨⟨rfl,rfl,rfl,rfl,trivial⟩,K0,?_,?_⟩
    ·omega
    ·exact hno.step hx hy hc24
  ·intro hc14
   refine jG ?_;refine jJ func44 ?_;exact⟨_,rfl,by rw[decide_eq_true (hno.all hlen Zo)],K0⟩
theorem Kl (a:Option Addr)(xs:List Ag)(c:Nat)(w:World)(hs:As w a xs)(hl:xs.length≤4294967295):
  Calls prog 41 #[.slice a xs.length c] w (AS (fun v w'=>∃a' c',v= .slice a' xs.length c'∧Af w' 76 a' c' xs∧(∀b,own a' b→w.heap.size≤b)∧Aq w w')):=by
 refine Ae (n:=8) func41 rfl rfl rfl ?_;refine jG ?_;refine jV (Ic underlying27 rfl rfl) ?_;refine jG ?_;refine Aj.cond rfl (fun hc4=> ?_) (fun hc4=> ?_)
 ·skip
  refine jG ?_;refine jJ func41 ?_;have hx:=hs.nil_of hc4;subst hx;exact⟨_,rfl,none,0,rfl,Af.nil _ _,fun b h=>absurd h (Ac b),(Ah.refl _ w)⟩
 ·skip
  refine jG ?_;refine jR<|Av.buildSlice ([]:List Ag) underlying27 ty76 rfl rfl Ze ?_;intro ab ac a0 a4 a5;have a1:=A1 (Nat.le_refl _) (A9 a0);clear a0;have K0:=(a5:Aq w _);refine jG ?_;refine jR<|Av.append (xs:=([]:List Ag)) (ys:=xs) underlying27 ty76 rfl rfl rfl a4 (hs.ext K0) Zr Zd ?_;intro a2 a6 ad a7 a8 a3 a9;have aa:∀q_,own a2 q_→w.heap.size≤q_:=a3.ge a1 K0.size;clear a3;clear a9;refine jG ?_;refine jJ func41 ?_;replace K0:=K0.new a8 a1;exact⟨_,rfl,a2,a6,by rw[List.nil_append],by simpa using a7,aa,K0⟩
theorem Km (a:Option Addr)(xs:List Aa)(c:Nat)(d:Option Addr)(ys:List Aa)(e:Nat)(w:World)(hs:As w a xs)(ht:As w d ys)(hl:xs.length≤4294967295):
  Calls prog 67 #[.slice a xs.length c,.slice d ys.length e] w (AS (fun v w'=>v= .bool (decide (xs=ys))∧Aq w w')):=by
 refine Ae (n:=26) func67 rfl rfl rfl ?_;refine jG ?_;refine jF ?_ ?_
 ·intro hc10
  refine jG ?_;refine jJ func67 ?_;exact⟨_,rfl,by rw[decide_eq_false (fun h=>hc10 (by rw[h]))],(Ah.refl _ w)⟩
 ·intro hc10
  have hlen:xs.length=ys.length:=by omega
  refine jG ?_;refine Aj.loop (ι:=Nat) (fun i ρ' w'=>Holds ρ' [(0,.slice a xs.length c),(1,.slice d ys.length e),(12,.int .i64 ((xs.length:Nat):Int)),(13,.int .i64 ((i:Nat):Int))]∧Aq w w'∧(i≤xs.length)∧(EU xs ys i)) (fun i=>xs.length-i) 0 ?_ ?_
  ·refine⟨⟨rfl,rfl,rfl,rfl,trivial⟩,(Ah.refl _ w),?_,?_⟩
   ·omega
   ·exact EU.zero _ _
  rintro i a4 a5 ⟨a3,K0,hi,hno⟩ ih1;obtain⟨ρ₀,rfl⟩:=a3.ex;clear a3;refine jG ?_;refine jF ?_ ?_
  ·intro hc14
   refine jG ?_;obtain⟨a6,a7,x,hx,a8,a0⟩:=hs.eo i;have hc_9_lt:=a0.lt;obtain⟨a9,aa,y,hy,ab,a1⟩:=ht.eo i;have hc_15_lt:=a1.lt;refine Aj.drawR ?_;intro ac a2;replace a0:=(a0.ext K0).ext a2;replace a1:=(a1.ext K0).ext a2;refine jG ?_;refine jD (JQ Zk rfl rfl (Ro x y)) ?_;refine jG ?_;replace K0:=K0.ext a2;refine jF ?_ ?_
   ·intro hc24
    refine jG ?_;refine jJ func67 ?_;exact⟨_,rfl,by rw[decide_eq_false (IK hx hy hc24)],K0⟩
   ·intro hc24
    refine jG ?_;refine jV (At (c:=((i+1:Nat):Int)) (An rfl rfl Zo Zo) rfl) ?_;refine jG ?_;refine ih1 (i+1) _ _ ?_ Zo;refine⟨⟨rfl,rfl,rfl,rfl,trivial⟩,K0,?_,?_⟩
    ·omega
    ·exact hno.step hx hy hc24
  ·intro hc14
   refine jG ?_;refine jJ func67 ?_;exact⟨_,rfl,by rw[decide_eq_true (hno.all hlen Zo)],K0⟩
theorem Kn (a:Option Addr)(xs:List Aa)(c:Nat)(w:World)(hs:As w a xs)(hl:xs.length≤4294967295):
  Calls prog 85 #[.slice a xs.length c] w (AS (fun v w'=>∃a' c',v= .slice a' xs.length c'∧Af w' 46 a' c' xs∧(∀b,own a' b→w.heap.size≤b)∧Aq w w')):=by
 refine Ae (n:=8) func85 rfl rfl rfl ?_;refine jG ?_;refine jV (Ic underlying28 rfl rfl) ?_;refine jG ?_;refine Aj.cond rfl (fun hc4=> ?_) (fun hc4=> ?_)
 ·skip
  refine jG ?_;refine jJ func85 ?_;have hx:=hs.nil_of hc4;subst hx;exact⟨_,rfl,none,0,rfl,Af.nil _ _,fun b h=>absurd h (Ac b),(Ah.refl _ w)⟩
 ·skip
  refine jG ?_;refine jR<|Av.buildSlice ([]:List Aa) underlying28 ty46 rfl rfl Ze ?_;intro ab ac a0 a4 a5;have a1:=A1 (Nat.le_refl _) (A9 a0);clear a0;have K0:=(a5:Aq w _);refine jG ?_;refine jR<|Av.append (xs:=([]:List Aa)) (ys:=xs) underlying28 ty46 rfl rfl rfl a4 (hs.ext K0) Zr Zd ?_;intro a2 a6 ad a7 a8 a3 a9;have aa:∀q_,own a2 q_→w.heap.size≤q_:=a3.ge a1 K0.size;clear a3;clear a9;refine jG ?_;refine jJ func85 ?_;replace K0:=K0.new a8 a1;exact⟨_,rfl,a2,a6,by rw[List.nil_append],by simpa using a7,aa,K0⟩
end Go.Proofs.YtjkaicjmfgekjaaGreatDoor
