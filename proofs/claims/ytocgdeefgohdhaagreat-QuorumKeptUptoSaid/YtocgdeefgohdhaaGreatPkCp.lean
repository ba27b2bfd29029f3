/-
  Cp
-/
import Derived.Test.YtocgdeefgohdhaaGreatRows
import Derived.Test.YtocgdeefgohdhaaGreatPkCo
import Derived.Test.YtocgdeefgohdhaaGreatPkI
set_option linter.all false
set_option maxRecDepth 100000
set_option maxHeartbeats 4000000
namespace Go.Proofs.YtocgdeefgohdhaaGreat
attribute [local irreducible] RD RS St1 RL RA RT RT1 Run
attribute [local irreducible] mayD smD ltD ltM ordD mkN Cov CovR
attribute [local irreducible] ltE cmpE itemsN errE firstE canE canX Gr nameK priceN
attribute [local irreducible] X
theorem canC_ (am:Option Addr)(ms:List MarkC)(cm:Nat)(ac:Option Addr)(cl:List DotC)(cc:Nat)(ae:Option Addr)(es:List EntryC)(ce:Nat)(w:World)(hcap:es.length≤ce)(hs:SlOf w am ms)(ht:SlOf w ac cl)(hse:SlOf w ae es)(hl:ms.length≤4294967295)(hl2:cl.length≤4294967295)(hl3:es.length≤4294967295)(hb:EntB es):
  Calls Tryz.prog 67 #[.agg #[.slice (ae) (es.length) (ce),.slice (am) (ms.length) (cm),.slice (ac) (cl.length) (cc)]] w (Ret (fun v w'=>v= .int .i64 (canE ms cl es)∧Ext w w')):=by
 refine calls_run (n:=32) Tryz.func67 rfl rfl rfl ?_;refine jG ?_;refine jR<|jB ?_;intro a1 a8 a2 a0 a6;have:w.heap.size≤a1:=a2;clear a2;have K0:=(a6:Ext w _);refine jG ?_;refine jR<|jC (can_ am ms cm ac cl cc _ (hs.ext K0) (ht.ext K0) (by omega) (by omega)) ?_;rintro _ a9 ⟨rfl,a3⟩;refine jG ?_;replace a0:=a0.ext a3;replace K0:=K0.ext a3;refine jF ?_ ?_
 ·intro hc5
  refine jG ?_;refine jJ Tryz.func67 ?_;exact⟨_,rfl,by rw[canE_ctx hc5],K0⟩
 ·intro hc5
  have hcan:canX ms cl=true:=by simpa using hc5
  refine jG ?_;refine jF ?_ ?_
  ·intro hc10
   refine jG ?_;refine jJ Tryz.func67 ?_;exact⟨_,rfl,by rw[canE_long hcan (by omega)],K0⟩
  ·intro hc10
   refine jG ?_;refine Run.loop (ι:=Nat) (fun i ρ' w'=>Holds ρ' [(1,jp a1),(17,.int .i64 (((es.length:Nat):Int))),(18,.int .i64 (((i:Nat):Int)))]∧Ext w w'∧(Blk w' a1 [.slice (ae) (es.length) (ce),.slice (am) (ms.length) (cm),.slice (ac) (cl.length) (cc)] 29)∧(i≤es.length)∧(firstE ms cl es i=0)) (fun i=>es.length-i) 0 ?_ ?_
   ·refine⟨⟨rfl,rfl,rfl,trivial⟩,K0,a0,?_,?_⟩
    ·omega
    ·exact firstE_zero _ _ _
   clear a0;clear K0;rintro i aa ab ⟨a4,K0,a0,hi,h0⟩ ih1;obtain⟨ρ₀,rfl⟩:=a4.ex;clear a4;refine jG ?_;refine jF ?_ ?_
   ·intro hc19
    obtain⟨x,hx⟩:∃x,es[i]? =some x:=⟨_,List.getElem?_eq_getElem (by omega)⟩;refine jG ?_;refine jR<|jC (entry_ am ms cm ac cl cc ae es ce i x _ hcap (hs.ext K0) (ht.ext K0) (hse.ext K0) (by omega) (by omega) (by omega) hcan h0 hx (hb x (mem_of_at hx)).1) ?_;rintro _ ad ⟨rfl,a5⟩;refine jG ?_;replace a0:=a0.ext a5;replace K0:=K0.ext a5;refine jF ?_ ?_
    ·intro hc25
     refine jG ?_;refine jJ Tryz.func67 ?_;exact⟨_,rfl,by rw[canE_at hcan (by omega) h0 hx hc25],K0⟩
    ·intro hc25
     refine jG ?_;refine jV (litI (c:=((i+1:Nat):Int)) (x_add rfl rfl (by omega) (by omega)) rfl) ?_;refine jG ?_;refine ih1 (i+1) _ _ ?_ (by omega);refine⟨⟨rfl,rfl,rfl,trivial⟩,K0,a0,?_,?_⟩
     ·omega
     ·exact firstE_step h0 hx hc25
   ·intro hc19
    refine jG ?_;refine jR<|jC (many_ _ es _ _ (hse.ext K0) hcap (by omega)) ?_;rintro _ af ⟨rfl,a7⟩;refine jG ?_;replace K0:=K0.ext a7;refine jF ?_ ?_
    ·intro hc31
     refine jG ?_;refine jJ Tryz.func67 ?_;exact⟨_,rfl,by rw[canE_many hcan (by omega) (by rw[←(show i=es.length by omega)];exact h0) (by omega)],K0⟩
    ·intro hc31
     refine jG ?_;refine jJ Tryz.func67 ?_;exact⟨_,rfl,by rw[canE_ok hcan (by omega) (by rw[←(show i=es.length by omega)];exact h0) (by omega)],K0⟩
end Go.Proofs.YtocgdeefgohdhaaGreat
