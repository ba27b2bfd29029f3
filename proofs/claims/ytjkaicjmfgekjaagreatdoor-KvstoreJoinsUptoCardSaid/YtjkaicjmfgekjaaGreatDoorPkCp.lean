/-
  Cp
-/
import Derived.Test.YtjkaicjmfgekjaaGreatDoorRows
import Derived.Test.YtjkaicjmfgekjaaGreatDoorPkCo
import Derived.Test.YtjkaicjmfgekjaaGreatDoorPkI
set_option linter.all false
set_option maxRecDepth 100000
set_option maxHeartbeats 4000000
namespace Go.Proofs.YtjkaicjmfgekjaaGreatDoor
open Go.Proofs.Tryz
attribute [local irreducible] RD RS Av RL RA RT CJ Aj
attribute [local irreducible] AE FC CC BS BL B2 B0 Du
attribute [local irreducible] DQ D5 itemsN CQ A0 Bj B4 Gr A6 Bw
attribute [local irreducible] X
theorem O0 (am:Option Addr)(ms:List Aa)(cm:Nat)(ac:Option Addr)(cl:List Ad)(cc:Nat)(ae:Option Addr)(es:List Ag)(ce:Nat)(w:World)(hcap:es.length≤ce)(hs:As w am ms)(ht:As w ac cl)(hse:As w ae es)(hl:ms.length≤4294967295)(hl2:cl.length≤4294967295)(hl3:es.length≤4294967295)(hb:EN es):
  Calls prog 35 #[.agg #[.slice ae es.length ce,.slice am ms.length cm,.slice ac cl.length cc]] w (AS (fun v w'=>v= .int .i64 (Bj ms cl es)∧Aq w w')):=by
 refine Ae (n:=32) func35 rfl rfl rfl ?_;refine jG ?_;refine jR<|jB ?_;intro a1 a8 a2 a0 a6;have:w.heap.size≤a1:=a2;clear a2;have K0:=(a6:Aq w _);refine jG ?_;refine jR<|jC (TB am ms cm ac cl cc _ (hs.ext K0) (ht.ext K0) Zo Zo) ?_;rintro _ a9 ⟨rfl,a3⟩;refine jG ?_;replace a0:=a0.ext a3;replace K0:=K0.ext a3;refine jF ?_ ?_
 ·intro hc5
  refine jG ?_;refine jJ func35 ?_;exact⟨_,rfl,by rw[Jo hc5],K0⟩
 ·intro hc5
  have hcan:B4 ms cl=true:=by simpa using hc5
  refine jG ?_;refine jF ?_ ?_
  ·intro hc10
   refine jG ?_;refine jJ func35 ?_;exact⟨_,rfl,by rw[HH hcan Zo],K0⟩
  ·intro hc10
   refine jG ?_;refine Aj.loop (ι:=Nat) (fun i ρ' w'=>Holds ρ' [(1,jp a1),(17,.int .i64 ((es.length:Nat):Int)),(18,.int .i64 ((i:Nat):Int))]∧Aq w w'∧(AA w' a1 [.slice ae es.length ce,.slice am ms.length cm,.slice ac cl.length cc] 33)∧(i≤es.length)∧(A0 ms cl es i=0)) (fun i=>es.length-i) 0 ?_ ?_
   ·refine⟨⟨rfl,rfl,rfl,trivial⟩,K0,a0,?_,?_⟩
    ·omega
    ·exact H2 _ _ _
   clear a0;clear K0;rintro i aa ab ⟨a4,K0,a0,hi,h0⟩ ih1;obtain⟨ρ₀,rfl⟩:=a4.ex;clear a4;refine jG ?_;refine jF ?_ ?_
   ·intro hc19
    obtain⟨x,hx⟩:∃x,es[i]? =some x:=⟨_,List.getElem?_eq_getElem Zo⟩;refine jG ?_;refine jR<|jC (Vf am ms cm ac cl cc ae es ce i x _ hcap (hs.ext K0) (ht.ext K0) (hse.ext K0) Zo Zo Zo hcan h0 hx (hb x (Bc hx)).1) ?_;rintro _ ad ⟨rfl,a5⟩;refine jG ?_;replace a0:=a0.ext a5;replace K0:=K0.ext a5;refine jF ?_ ?_
    ·intro hc25
     refine jG ?_;refine jJ func35 ?_;exact⟨_,rfl,by rw[OX hcan Zo h0 hx hc25],K0⟩
    ·intro hc25
     refine jG ?_;refine jV (At (c:=((i+1:Nat):Int)) (An rfl rfl Zo Zo) rfl) ?_;refine jG ?_;refine ih1 (i+1) _ _ ?_ Zo;refine⟨⟨rfl,rfl,rfl,trivial⟩,K0,a0,?_,?_⟩
     ·omega
     ·exact EG h0 hx hc25
   ·intro hc19
    refine jG ?_;refine jR<|jC (Sa _ es _ _ (hse.ext K0) hcap Zo) ?_;rintro _ af ⟨rfl,a7⟩;refine jG ?_;replace K0:=K0.ext a7;refine jF ?_ ?_
    ·intro hc31
     refine jG ?_;refine jJ func35 ?_;exact⟨_,rfl,by rw[HI hcan Zo (by rw[←(show i=es.length by omega)];exact h0) Zo],K0⟩
    ·intro hc31
     refine jG ?_;refine jJ func35 ?_;exact⟨_,rfl,by rw[It hcan Zo (by rw[←(show i=es.length by omega)];exact h0) Zo],K0⟩
end Go.Proofs.YtjkaicjmfgekjaaGreatDoor
