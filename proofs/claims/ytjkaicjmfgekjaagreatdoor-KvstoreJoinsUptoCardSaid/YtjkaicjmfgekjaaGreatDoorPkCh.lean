/-
  Ch, Ci, Cj
-/
import Derived.Test.YtjkaicjmfgekjaaGreatDoorRows
import Derived.Test.YtjkaicjmfgekjaaGreatDoorPkCf
import Derived.Test.YtjkaicjmfgekjaaGreatDoorPkBits
import Derived.Test.YtjkaicjmfgekjaaGreatDoorPkErr
import Derived.Test.YtjkaicjmfgekjaaGreatDoorPkI
set_option linter.all false
set_option maxRecDepth 100000
set_option maxHeartbeats 4000000
namespace Go.Proofs.YtjkaicjmfgekjaaGreatDoor
open Go.Proofs.Tryz
attribute [local irreducible] RD RS Av RL RA RT CJ Aj
structure U9 (ms:List Aa)(m:Aa)(i:Nat):Prop where
 hi:i≤ms.length
 lo:∀k,k<i→∀x,ms[k]? =some x→BS x m
 up:∀k,i≤k→∀x,ms[k]? =some x→¬BS x m
theorem V2 {ms:List Aa}{m y:Aa}{h:Nat}(hs:ms.Pairwise BS)(hx:ms[h]? =some y)(hl:BS y m):∀k,k<h+1→∀x,ms[k]? =some x→BS x m:=fun k hk x hxk=>by
 by_cases e:k=h
 ·subst e;rw[hx]at hxk;cases hxk;exact hl
 ·exact CF (Ct hs Zo hxk hx) hl
theorem V3 {ms:List Aa}{m y:Aa}{h:Nat}(hs:ms.Pairwise BS)(hx:ms[h]? =some y)(hl:¬BS y m):∀k,h≤k→∀x,ms[k]? =some x→¬BS x m:=fun k hk x hxk h2=>by
 by_cases e:k=h
 ·subst e;rw[hx]at hxk;cases hxk;exact hl h2
 ·exact hl (CF (Ct hs Zo hx hxk) h2)
theorem setM_same : ∀ {ms : List Aa} {d : Ad} {i : Nat} {y : Aa}, U9 ms d.m i → ms[i]? = some y → y.d.a = d.a → setM ms d = ms.set i ⟨y.node, y.life, d.count⟩
  | [], _, _, _, _, h2, _ => by cases h2
  | x :: ms, d, 0, y, h, h2, h3 => by
    simp only [List.getElem?_cons_zero, Option.some.injEq] at h2
    subst h2
    rw [setM, if_pos h3, List.set_cons_zero]
  | x :: ms, d, i + 1, y, h, h2, h3 => by
    have hx := h.lo 0 Zo x rfl
    rw [setM, if_neg (I6 hx), if_neg (fun h4 => Lc (CF hx h4)), List.set_cons_succ,
      setM_same (i := i) ⟨by have := h.hi; simpa using this, fun k hk z hz => h.lo (k + 1) Zo z (by simpa using hz), fun k hk z hz => h.up (k + 1) Zo z (by simpa using hz)⟩ (by simpa using h2) h3]
theorem setM_new : ∀ {ms : List Aa} {d : Ad} {i : Nat}, U9 ms d.m i → (∀ y, ms[i]? = some y → y.d.a ≠ d.a) → setM ms d = EA ms i d.m
  | [], d, i, h, _ => by have := h.hi; simp at this; subst this; rfl
  | x :: ms, d, 0, h, h2 => by
    have hx := h.up 0 (Nat.le_refl _) x rfl
    have hn := h2 x rfl
    rw [setM, if_neg hn, if_pos ((Lf (a := x) (b := d.m) hn).resolve_left hx)]
    rfl
  | x :: ms, d, i + 1, h, h2 => by
    have hx := h.lo 0 Zo x rfl
    rw [setM, if_neg (I6 hx), if_neg (fun h4 => Lc (CF hx h4)),
      setM_new (i := i) ⟨by have := h.hi; simpa using this, fun k hk z hz => h.lo (k + 1) Zo z (by simpa using hz), fun k hk z hz => h.up (k + 1) Zo z (by simpa using hz)⟩ (fun y hy => h2 y (by simpa using hy))]
    simp [EA]
theorem TK {x:Aa}{d:Ad}(h:BL ⟨x.node,x.life,0⟩ ⟨d.node,d.life,0⟩=0):x.d.a=d.a:=by
 have:=OF.1 h;simp only[Ad.mk.injEq]at this;simp[Aa.d,Ad.a,this.1,this.2.1]
theorem RO {x:Aa}{d:Ad}(h:¬BL ⟨x.node,x.life,0⟩ ⟨d.node,d.life,0⟩=0):x.d.a≠d.a:=fun e=>h (by
 simp only[Aa.d,Ad.a,AU.mk.injEq]at e;rw[OF];simp[e.1,e.2])
theorem AE.z0 {d:Ad}(h:AE d):FC ⟨d.node,d.life,0⟩:=by simp only[AE,FC]at*;omega
theorem TL {ms:List Aa}{cl:List Ad}{d:Ad}(h:d.count≤B2 ms d.a):BF (ms,cl) d=(ms,cl):=by rw[BF,if_pos h]
theorem TM {ms:List Aa}{cl:List Ad}{d:Ad}(h:¬d.count≤B2 ms d.a)(h2:B2 ms d.a+1<d.count):BF (ms,cl) d=(ms,cl++[d]):=by rw[BF,if_neg h,if_pos h2]
theorem OT {ms:List Aa}{cl:List Ad}{d:Ad}(h:¬d.count≤B2 ms d.a)(h2:¬B2 ms d.a+1<d.count):BF (ms,cl) d=(setM ms d,cl):=by rw[BF,if_neg h,if_neg h2]
theorem RP {ms:List Aa}(h:∀m∈ms,AE m.d)(a:AU):0≤B2 ms a∧B2 ms a≤1099511627776:=by
 by_cases hz:B2 ms a=0
 ·omega
 ·obtain⟨m,hm,-,e⟩:=Ea hz
  have:=h m hm
  simp only[AE,Aa.d]at this
  omega
attribute [local irreducible] AE FC CC BS BL B2 B0 Du
attribute [local irreducible] DW DX EL Fr A5 Ar Bu Fg F8
attribute [local irreducible] BF setM
attribute [local irreducible] X
theorem RQ (m:Aa)(d:Ad)(w:World)(hm:AE m.d)(hd:AE d):
  Calls prog 283 #[.agg #[.int .i64 ((m).node),.int .i64 ((m).life),.int .i64 ((m).count)],.agg #[.int .i64 ((d).node),.int .i64 ((d).life),.int .i64 ((d).count)]] w (AS (fun v w'=>v= .int .i64 (BL ⟨m.node,m.life,0⟩ ⟨d.node,d.life,0⟩)∧Aq w w')):=by
 refine Ae (n:=16) func283 rfl rfl rfl ?_;refine jG ?_;refine jR<|jB ?_;intro a4 a7 a2 a0 a5;have:w.heap.size≤a4:=a2;clear a2;have K0:=(a5:Aq w _);refine jR<|jB ?_;intro a8 a9 a1 aa a3;have ab:=Ai a0.lt a1;have:=Nat.le_trans K0.size a1;clear a1;replace a0:=a0.ext a3;refine jG ?_;refine jV (AC (cells:=#[.int .i64 ((m).node),.int .i64 ((m).life),.int .i64 0]) Zk) ?_;refine jG ?_;refine jV (AC (cells:=#[.int .i64 ((d).node),.int .i64 ((d).life),.int .i64 0]) Zk) ?_;refine jR<|jC (NC (⟨(m).node,(m).life,0⟩:Ad) (⟨(d).node,(d).life,0⟩:Ad) _ (AE.z hm) hd.z0) ?_;rintro _ ac ⟨rfl,a6⟩;refine jG ?_;refine jJ func283 ?_;replace K0:=(K0.ext a3).ext a6;exact⟨_,rfl,rfl,K0⟩
theorem RR (am:Option Addr)(ms:List Aa)(cm:Nat)(d:Ad)(w:World)(hs:As w am ms)(hS:ms.Pairwise BS)(hM:∀m∈ms,AE m.d)(hd:AE d)(hl:ms.length≤1000000):
  Calls prog 282 #[.slice am ms.length cm,.agg #[.int .i64 ((d).node),.int .i64 ((d).life),.int .i64 ((d).count)],.func (.func 283) #[] #[]] w (AS (fun v w'=>∃(i:Nat) (b:Bool),v= .tuple #[.int .i64 (i:Int),.bool b]∧U9 ms d.m i∧(b=true↔∃y,ms[i]? =some y∧y.d.a=d.a)∧Aq w w')):=by
 refine Ae (n:=49) func282 rfl rfl rfl ?_;refine jG ?_;refine jR<|jB ?_;intro a3 ae a8 a0 aa;have:w.heap.size≤a3:=a8;clear a8;have K0:=(aa:Aq w _);refine jG ?_;refine Aj.loop (ι:=Nat) (fun m ρ' w'=>∃i:Nat,∃j:Nat,Holds ρ' [(0,.slice am ms.length cm),(2,.func (.func 283) #[] #[]),(4,jp a3),(8,.int .i64 ((ms.length:Nat):Int)),(9,.int .i64 ((i:Nat):Int)),(10,.int .i64 ((j:Nat):Int))]∧Aq w w'∧(AA w' a3 [.int .i64 ((d).node),.int .i64 ((d).life),.int .i64 ((d).count)] 73)∧(i≤j∧j≤ms.length)∧(∀k,k<i→∀x,ms[k]? =some x→BS x d.m)∧(∀k,j≤k→∀x,ms[k]? =some x→¬BS x d.m)∧(m=j-i)) (fun m=>m) ms.length ?_ ?_
 ·refine⟨0,ms.length,⟨rfl,rfl,rfl,rfl,rfl,rfl,trivial⟩,K0,a0,?_,?_,?_,?_⟩
  ·omega
  ·exact fun k hk=>absurd hk (Nat.not_lt_zero k)
  ·exact fun k hk x hx=>absurd (List.getElem?_eq_some_iff.1 hx).1 Zo
  ·omega
 clear a0;clear K0;rintro m af ag ⟨i,j,a9,K0,a0,hij,h1,h2,hm⟩ ih1;obtain⟨ρ₀,rfl⟩:=a9.ex;clear a9;refine jG ?_;refine jF ?_ ?_
 ·intro hc17
  refine jG ?_;refine jV (At (c:=((i+j:Nat):Int)) (An rfl rfl Zo Zo) rfl) ?_;refine jV (Fi (kd:= .u64) (a:=i+j) rfl ⟨_,underlying3⟩ underlying106 (show i+j<18446744073709551616 by omega)) ?_;refine jV (Ho (kd:= .u64) (a:=i+j) (b:=1) 2 Zd rfl rfl Zd) ?_;refine jV (Fi (kd:= .i64) (a:=(i+j)/2) rfl ⟨_,underlying106⟩ underlying3 (show(i+j)/2<9223372036854775808 by omega)) ?_;refine jG ?_;obtain⟨ah,ai,y,hy,ab,a1⟩:=hs.el (i:=(i+j)/2) Zl;have hc_14_lt:=a1.lt;refine Aj.drawS [] [0,1,2,3,1004,1005,2006,7] ?_;intro aj a4;replace a1:=(a1.ext K0).ext a4;replace a0:=a0.ext a4;refine jM (jb a0 (jl a1 Jn)) ?_;refine FJ ?_;refine Ex ?_;refine jP ?_ (hx:=by exact fun _=>(AI underlying28 ty46 rfl rfl ab Zl));refine jG ?_;refine jU rfl<|Av.callV (vals:=[.agg #[.int .i64 ((y).node),.int .i64 ((y).life),.int .i64 ((y).count)],.agg #[.int .i64 ((d).node),.int .i64 ((d).life),.int .i64 ((d).count)]]) en283.h rfl rfl (RQ y d _ (hM y (Bc hy)) hd) ?_;rintro _ ak ⟨rfl,a5⟩;replace a0:=a0.ext a5;replace a1:=a1.ext a5;refine jG ?_;replace K0:=(K0.ext a4).ext a5;refine jF ?_ ?_
  ·intro hc31
   refine jG ?_;refine jV (At (c:=((((i+j)/2)+1:Nat):Int)) (An rfl rfl Zo Zo) rfl) ?_;refine jG ?_;refine ih1 (j-((i+j)/2+1)) _ _ ?_ Zo;refine⟨((i+j)/2+1),j,⟨rfl,rfl,rfl,rfl,rfl,rfl,trivial⟩,K0,a0,?_,?_,?_,?_⟩
   ·omega
   ·exact V2 hS hy (Ms hc31)
   ·exact h2
   ·rfl
  ·intro hc31
   refine jG ?_;refine ih1 ((i+j)/2-i) _ _ ?_ Zo;refine⟨i,((i+j)/2),⟨rfl,rfl,rfl,rfl,rfl,rfl,trivial⟩,K0,a0,?_,?_,?_,?_⟩
   ·omega
   ·exact h1
   ·exact V3 hS hy (OP hc31)
   ·rfl
 ·intro hc17
  refine Ds ?_;by_cases hL:i<ms.length
  ·obtain⟨al,an,z,hz,ac,a2⟩:=hs.eo i
   have hc_24_lt:=a2.lt;refine Aj.drawS [] [0,1,2,3,4,5,6,7,8,1009,1010,2011,12,13,14,15] ?_;intro ao a6;replace a2:=(a2.ext K0).ext a6;replace a0:=a0.ext a6;refine jM (jb a0 (jl a2 Jn)) ?_;refine FJ ?_;refine Ex ?_;refine jP ?_ (hx:=by exact fun _=>(Cq (FG rfl rfl) Zi));refine LO ?_;refine jQ ?_ (hx:=by exact fun _ hg=>(AI underlying28 ty46 rfl rfl ac Zl));refine jG ?_;refine jX rfl<|Av.callV (vals:=[.agg #[.int .i64 ((z).node),.int .i64 ((z).life),.int .i64 ((z).count)],.agg #[.int .i64 ((d).node),.int .i64 ((d).life),.int .i64 ((d).count)]]) en283.h rfl rfl (RQ z d _ (hM z (Bc hz)) hd) ?_;rintro _ ap ⟨rfl,a7⟩;replace a0:=a0.ext a7;replace a2:=a2.ext a7;refine jG ?_;refine jP ?_ (hx:=by exact fun _=>(Bv rfl rfl rfl));refine jG ?_;refine jK func282 ?_;replace K0:=(K0.ext a6).ext a7;exact⟨_,rfl,i,_,rfl,⟨by omega,h1,fun k hk=>h2 k Zo⟩,⟨fun h_=>⟨z,hz,TK (by simpa using h_)⟩,fun⟨y_,hy_,e_⟩=>by rw[hz]at hy_;cases hy_;exact Decidable.byContradiction fun h_=>RO (by simpa using h_) e_⟩,K0⟩
  ·refine Aj.drawS [] [0,1,2,3,4,5,6,7,8,9,10,2011,12,13,14,15] ?_
   intro aq ad;refine jM Jn ?_;refine FJ ?_;refine Ex ?_;refine jP ?_ (hx:=by exact fun _=>(CW (FG rfl rfl) Zi));refine jG ?_;refine jY ?_;refine jG ?_;refine jP ?_ (hx:=by exact fun _=>(AJ (b:=false) (e:=false) rfl rfl rfl));refine jG ?_;refine jK func282 ?_;replace K0:=K0.ext ad;exact⟨_,rfl,i,_,rfl,⟨by omega,h1,fun k hk=>h2 k Zo⟩,⟨fun h_=>(by cases h_),fun⟨y_,hy_,_⟩=>by have:=(List.getElem?_eq_some_iff.1 hy_).1;omega⟩,K0⟩
end Go.Proofs.YtjkaicjmfgekjaaGreatDoor
namespace Go.Proofs.YtjkaicjmfgekjaaGreatDoor
open Go.Proofs.Tryz
attribute [local irreducible] RD RS Av RL RA RT CJ Aj
attribute [local irreducible] AE FC CC BS BL B2 B0 Du
attribute [local irreducible] DW DX EL Fr A5 Ar Bu Fg F8
attribute [local irreducible] BF setM EA
theorem DY {w:World}{A B C:Nat→Prop}(h:∀q,C q→q<w.heap.size→A q∨B q):A8 w (fun q=>A q∨B q) C:=fun q hq=>if hl:q<w.heap.size then .inl (h q hq hl)else .inr (Nat.le_of_not_lt hl)
theorem RU (ms : List Aa) (d : Ad) : (setM ms d).length ≤ ms.length + 1 := by
  induction ms with
  | nil => simp [setM]
  | cons m l ih =>
    rw [setM]
    split
    · simp
    · split <;> simp <;> omega
theorem PY (c:List Aa×List Ad)(d:Ad):(BF c d).1.length+(BF c d).2.length≤c.1.length+c.2.length+1:=by
 have:=RU c.1 d
 unfold BF
 split
 ·omega
 ·split<;>simp<;>omega
theorem PZ {c:List Aa×List Ad}{d:Ad}(h:∀m∈c.1,AE m.d)(hd:AE d):∀m∈(BF c d).1,AE m.d:=by
 unfold BF
 split
 ·exact h
 ·split
  ·exact h
  ·intro m hm
   rcases Jb hm with rfl|hm
   ·exact hd
   ·exact h m hm
theorem Lj {c:List Aa×List Ad}{d:Ad}(h:c.1.Pairwise BS):(BF c d).1.Pairwise BS:=by
 unfold BF
 split
 ·exact h
 ·split
  ·exact h
  ·exact H0 h
attribute [local irreducible] X
theorem Va (am:Option Addr)(ms:List Aa)(cm:Nat)(ac:Option Addr)(cl:List Ad)(cc:Nat)(d:Ad)(w:World)(ho:Af w 46 am cm ms)(hk:Af w 73 ac cc cl)(hap:∀q,own am q→¬own ac q)(hS:ms.Pairwise BS)(hM:∀m∈ms,AE m.d)(hd:AE d)(hl:ms.length≤1000000)(hl2:cl.length≤1000000):
  Calls prog 243 #[.agg #[.slice am ms.length cm,.slice ac cl.length cc],.agg #[.int .i64 ((d).node),.int .i64 ((d).life),.int .i64 ((d).count)]] w (AS (fun v w'=>∃a1 c1 a2 c2,v= .agg #[.slice a1 (BF (ms,cl) d).1.length c1,.slice a2 (BF (ms,cl) d).2.length c2]∧Af w' 46 a1 c1 (BF (ms,cl) d).1∧Af w' 73 a2 c2 (BF (ms,cl) d).2∧(∀q,own a1 q→¬own a2 q)∧A8 w (fun q=>own am q∨own ac q) (own a1)∧A8 w (fun q=>own am q∨own ac q) (own a2)∧Ah (fun q=>own am q∨own ac q) w w')):=by
 have hin1:∀q,own am q→q<w.heap.size→own am q∨own ac q:=fun _ h _=> .inl h;have hin2:∀q,own ac q→q<w.heap.size→own am q∨own ac q:=fun _ h _=> .inr h;have hmk:=RP hM d.a;refine Ae (n:=54) func243 rfl rfl rfl ?_;refine jG ?_;refine jR<|jB ?_;intro az b2 au a0 aA;have av:=Al ho.own_lt au;have aB:=Al hk.own_lt au;have:w.heap.size≤az:=au;clear au;have K0:=(aA:Aq w _).to (S:=(fun q=>own am q∨own ac q));refine jR<|jB ?_;intro b3 b4 af a4 aw;have b5:=Ai a0.lt af;replace ho:=ho.ext aA;have aK:=Al ho.own_lt af;replace hk:=hk.ext aA;have aL:=Al hk.own_lt af;have:=Nat.le_trans K0.size af;clear af;refine jR<|jA ?_;intro aF b6 a5 a3 ag;replace a0:=a0.ext aw;have b7:=Ai a0.lt a5;have b8:=Ai a4.lt a5;replace ho:=ho.ext aw;have a6:=Al ho.own_lt a5;replace hk:=hk.ext aw;have ah:=Al hk.own_lt a5;replace K0:=K0.ext aw;have:=Nat.le_trans K0.size a5;clear a5;refine jG ?_;refine Aj.drawS [] [1000,1001,2002,2003,4] ?_;intro b9 a7;replace a0:=(a0.ext ag).ext a7;replace a4:=(a4.ext ag).ext a7;refine jM (jb a0 (jb a4 Jn)) ?_;refine jG ?_;refine jU rfl<|jC (GD d _) ?_;rintro _ ba ⟨rfl,a8⟩;replace a0:=a0.ext a8;replace a4:=a4.ext a8;refine jG ?_;replace ho:=((ho.ext ag).ext a7).ext a8;replace hk:=((hk.ext ag).ext a7).ext a8;refine jU rfl<|jC (OH am ms cm ac cl cc (Ad.a d) _ ho.sl hk.sl Zo Zo) ?_;rintro _ bb ⟨rfl,a9⟩;replace a0:=a0.ext a9;replace a4:=a4.ext a9;refine jG ?_;replace K0:=(((K0.ext ag).ext a7).ext a8).ext a9;replace a3:=((a3.ext a7).ext a8).ext a9;replace ho:=ho.ext a9;replace hk:=hk.ext a9;refine jF ?_ ?_
 ·intro hc12
  refine jG ?_;refine jR<|jS a3 ?_;intro bc a3 ai;replace K0:=K0.n1 ai;refine jG ?_;refine Aj.retC (cs:=#[.slice am ms.length cm,.slice ac cl.length cc]) func243 rfl ty31 rfl rfl a3.cl ?_;rw[TL hc12];replace ho:=ho.keepO ai (Ab a6);replace hk:=hk.keepO ai (Ab ah);replace a0:=a0.kp ai;replace a4:=a4.kp ai;exact⟨_,rfl,am,cm,ac,cc,rfl,ho,hk,hap,DY hin1,DY hin2,K0⟩
 ·intro hc12
  refine jG ?_;refine jV (An rfl rfl Zo Zo) ?_;refine jG ?_;refine jF ?_ ?_
  ·intro hc18
   refine jG ?_;refine jR<|Av.buildSlice ([d]:List Ad) underlying29 ty73 rfl rfl Ze ?_;intro be bg aM aN aa;clear aM;replace hk:=hk.ext aa;refine jR<|Av.append (xs:=cl) (ys:=([d]:List Ad)) underlying29 ty73 rfl rfl rfl hk aN.sl Zr Zd ?_;intro ab aG bh aC aj ak aO;replace ho:=ho.ext aa;have aP:∀q_,own ab q_→¬own am q_:=ak.apart (Zf hap) ho.own_lt;replace a0:=a0.ext aa;have aQ:¬own ab az:=ak.not aB a0.lt;replace a3:=a3.ext aa;have aR:¬own ab aF:=ak.not ah a3.lt;replace K0:=K0.ext aa;have aS:∀q_,own ab q_→q_<w.heap.size→(fun q=>own am q∨own ac q) q_:=ak.inS hin2 K0.size;replace K0:=K0.trans aj (fun x hlt hx=>hin2 x hx hlt);clear ak;clear aO;refine jG ?_;replace a0:=a0.keep aj aB;refine jR<|jS a0 ?_;intro bi a0 al;replace K0:=K0.n1 al;refine jG ?_;replace a3:=(a3.keep aj ah).kp al;refine jR<|jS a3 ?_;intro bj a3 an;replace K0:=K0.n1 an;refine jG ?_;refine Aj.retC (cs:=#[.slice am ms.length cm,.slice ab ((cl++([d]:List Ad)).length) aG]) func243 rfl ty31 rfl rfl a3.cl ?_;rw[TM (Int.not_le.2 hc12) hc18];replace a4:=(((a4.ext aa).keep aj aL).kp al).kp an;replace ho:=((ho.keepO aj hap).keepO al (Ab av)).keepO an (Ab a6);replace aC:=(aC.keepO al (Ab aQ)).keepO an (Ab aR);replace a0:=a0.kp an;exact⟨_,rfl,am,cm,ab,aG,rfl,ho,aC,(Zf aP),DY hin1,DY aS,K0⟩
  ·intro hc18
   refine jG ?_;refine jR<|jC (RR _ ms _ d _ ho.sl hS hM hd Zo) ?_;rintro _ bk ⟨i,b,rfl,hL,hb,ad⟩;have hLi:=hL.hi;refine jG ?_;replace ho:=ho.ext ad;replace hk:=hk.ext ad;replace a0:=a0.ext ad;replace a4:=a4.ext ad;replace a3:=a3.ext ad;replace K0:=K0.ext ad;refine Aj.cond rfl (fun hc38=> ?_) (fun hc38=> ?_)
   ·skip
    obtain⟨y,hy,he⟩:=hb.1 hc38;have hilt:=(List.getElem?_eq_some_iff.1 hy).1;obtain⟨bl,bm,y_,hy_,aT,aU⟩:=ho.sl.eo i;obtain rfl:y=y_:=Option.some.inj (hy.symm.trans hy_);refine jG ?_;refine jR<|Av.storeEl (v:= .int .i64 ((d).count)) (off:=2) (i:=i) (⟨y.node,y.life,(d).count⟩:Aa) ty3 rfl rfl rfl Zv ho aT hy_ rfl Zd rfl ?_;intro bn aH ao;clear aU;replace K0:=K0.trans ao (fun x hlt hx=>hin1 x hx hlt);replace ho:=aH;clear aH;replace a0:=a0.keep ao av;rw[show(ms).length=(ms.set i (⟨y.node,y.life,(d).count⟩:Aa)).length from(List.length_set ..).symm]at a0;refine jG ?_;replace a3:=a3.keep ao a6;refine jR<|jS a3 ?_;intro bo a3 ap;replace K0:=K0.n1 ap;refine jG ?_;refine Aj.retC (cs:=#[.slice am ((ms.set i (⟨y.node,y.life,(d).count⟩:Aa)).length) cm,.slice ac cl.length cc]) func243 rfl ty31 rfl rfl a3.cl ?_;rw[OT (Int.not_le.2 hc12) (Int.not_lt.2 hc18),setM_same hL hy he];replace hk:=(hk.keepO ao (Zf hap)).keepO ap (Ab ah);replace a4:=(a4.keep ao aK).kp ap;replace ho:=ho.keepO ap (Ab a6);replace a0:=a0.kp ap;exact⟨_,rfl,am,cm,ac,cc,rfl,ho,hk,hap,DY hin1,DY hin2,K0⟩
   ·skip
    refine jG ?_;refine jR<|Av.buildSlice ([Ad.m d]:List Aa) underlying28 ty46 rfl rfl Ze ?_;intro aV bp aI aW aq;have aX:=Ao (A9 aI) ho.own_lt;clear aI;replace ho:=ho.ext aq;refine jR<|jC (RN _ _ _ i d.m aV _ ho aW (fun h_=>(Zf aX) _ h_ (Ch.2 rfl)) hLi Zo) ?_;rintro _ bq ⟨ae,aJ,rfl,aD,ar,ax⟩;replace hk:=hk.ext aq;have aY:∀q_,own ae q_→¬own ac q_:=ar.apart hap hk.own_lt;replace a0:=a0.ext aq;have aZ:¬own ae az:=ar.not av a0.lt;replace a3:=a3.ext aq;have b0:¬own ae aF:=ar.not a6 a3.lt;replace K0:=K0.ext aq;have b1:∀q_,own ae q_→q_<w.heap.size→(fun q=>own am q∨own ac q) q_:=ar.inS hin1 K0.size;replace K0:=K0.trans ax (fun x hlt hx=>hin1 x hx hlt);clear ar;refine jG ?_;replace a0:=a0.keep ax av;refine jR<|jS a0 ?_;intro bs a0 ay;replace K0:=K0.n1 ay;refine jG ?_;replace a3:=(a3.keep ax a6).kp ay;refine jR<|jS a3 ?_;intro bt a3 aE;replace K0:=K0.n1 aE;refine jG ?_;refine Aj.retC (cs:=#[.slice ae ((EA ms i d.m).length) aJ,.slice ac cl.length cc]) func243 rfl ty31 rfl rfl a3.cl ?_;rw[OT (Int.not_le.2 hc12) (Int.not_lt.2 hc18),setM_new hL (fun y_ hy_ e_=>by have h_:=hb.2 ⟨y_,hy_,e_⟩;rw[hc38]at h_;cases h_)];replace hk:=((hk.keepO ax (Zf hap)).keepO ay (Ab aB)).keepO aE (Ab ah);replace aD:=(aD.keepO ay (Ab aZ)).keepO aE (Ab b0);exact⟨_,rfl,ae,aJ,ac,cc,rfl,aD,hk,aY,DY b1,DY hin2,K0⟩
end Go.Proofs.YtjkaicjmfgekjaaGreatDoor
namespace Go.Proofs.YtjkaicjmfgekjaaGreatDoor
open Go.Proofs.Tryz
attribute [local irreducible] RD RS Av RL RA RT CJ Aj
def JE (l:List Ad)(i:Nat):List Aa:=(l.take i).foldl Cn []
theorem RV (l:List Ad):JE l 0=[]:=rfl
theorem Jj {l:List Ad}{i:Nat}{d:Ad}(h:l[i]? =some d):JE l (i+1)=Cn (JE l i) d:=Gb h
theorem OU {l:List Ad}{i:Nat}(h:l.length≤i):JE l i=Ce l:=by rw[JE,List.take_of_length_le h];rfl
theorem Jk {α:Type}{l:List α}{y:α}(h:l[l.length-1]? =some y):l.getLast? =some y:=by rw[List.getLast?_eq_getElem?];exact h
theorem NK {l:List Aa}{d:Ad}{y:Aa}(h:l[l.length-1]? =some y)(ha:y.d.a=d.a):Cn l d=l.set (l.length-1) ⟨y.node,y.life,d.count⟩:=by
 rw[Cn,Jk h]
 simp only
 rw[if_pos ha]
 have hn:l≠ []:=fun e=>by subst e;cases h
 have e:=List.dropLast_concat_getLast hn
 have hl:l.dropLast.length=l.length-1:=List.length_dropLast
 conv=>rhs;rw[←e]
 rw[List.set_append_right _ _ (by rw[hl];simp),List.length_append,hl]
 simp
theorem NL {l:List Aa}{d:Ad}{y:Aa}(h:l[l.length-1]? =some y)(ha:¬y.d.a=d.a):Cn l d=l++[d.m]:=by
 rw[Cn,Jk h]
 simp only
 rw[if_neg ha]
theorem My {l:List Aa}{d:Ad}(h:¬0<l.length):Cn l d=l++[d.m]:=by
 have:l=[]:=List.eq_nil_of_length_eq_zero Zo
 subst this;rfl
theorem OV (l : List Ad) (i : Nat) : (JE l i).length ≤ i := by
  have key : ∀ (r : List Ad) (acc : List Aa), (r.foldl Cn acc).length ≤ acc.length + r.length := by
    intro r
    induction r with
    | nil => intro acc; simp
    | cons d r ih =>
      intro acc
      have := ih (Cn acc d)
      have h2 : (Cn acc d).length ≤ acc.length + 1 := by
        unfold Cn
        split
        · split <;> simp <;> omega
        · simp
      rw [List.foldl_cons, List.length_cons]; omega
  have := key (l.take i) []
  have h3 : (l.take i).length ≤ i := by rw [List.length_take]; omega
  simp only [List.length_nil, Nat.zero_add] at this
  unfold JE; omega
theorem Lk {l : List Ad} : ∀ m ∈ Ce l, m.d ∈ l := by
  have key : ∀ (r : List Ad) (acc : List Aa) (s : List Ad), (∀ m ∈ acc, m.d ∈ s) → ∀ m ∈ r.foldl Cn acc, m.d ∈ s ++ r := by
    intro r
    induction r with
    | nil => intro acc s h m hm; simpa using h m hm
    | cons d r ih =>
      intro acc s h m hm
      have := ih (Cn acc d) (s ++ [d]) (fun x hx => ?_) m hm
      · simpa using this
      · rcases List.eq_nil_or_concat acc with rfl | ⟨ls, y, rfl⟩
        · rw [Ja, List.mem_singleton] at hx; subst hx; simp
        · rw [List.concat_eq_append, HZ] at hx
          split at hx
          · rename_i ha
            rcases List.mem_append.1 hx with h2 | h2
            · exact List.mem_append_left _ (h x (by simp [h2]))
            · rw [List.mem_singleton] at h2; subst h2
              simp only [Aa.d, Ad.a, AU.mk.injEq] at ha
              refine List.mem_append_right _ (List.mem_singleton.2 ?_)
              exact Ad.eta ha.1 ha.2 rfl
          · rcases List.mem_append.1 hx with h2 | h2
            · exact List.mem_append_left _ (h x (by simpa using h2))
            · rw [List.mem_singleton] at h2; subst h2; simp
  intro m hm
  simpa using key l [] [] Zs m hm
def Qh (c:List Aa×List Ad)(l:List Ad)(i:Nat):List Aa×List Ad:=(l.take i).foldl BF c
theorem RW (c:List Aa×List Ad)(l:List Ad):Qh c l 0=c:=rfl
theorem RX {c:List Aa×List Ad}{l:List Ad}{i:Nat}{d:Ad}(h:l[i]? =some d):Qh c l (i+1)=BF (Qh c l i) d:=Gb h
structure V4 (c:List Aa×List Ad)(n:Nat):Prop where
 hs:c.1.Pairwise BS
 hm:∀m∈c.1,AE m.d
 hl:c.1.length+c.2.length≤n
theorem V4.step {c:List Aa×List Ad}{n:Nat}{d:Ad}(h:V4 c n)(hd:AE d):V4 (BF c d) (n+1):=⟨Lj h.hs,PZ h.hm hd,by have:=PY c d;have:=h.hl;omega⟩
theorem RY {l:List Ad}(h:∀d∈l,AE d):∀d∈uniq (AT l),AE d:=fun d hd=>by rw[Kw]at hd;exact h d (DM.1 (F9.1 hd))
theorem Ee (l:List Ad):(AT l).length=l.length:=List.length_mergeSort _
theorem RZ {M:List Aa}(hM:∀m∈M,AE m.d):V4 (Ce (AT (M.map Aa.d)),[]) M.length:=by
 have hd:∀d∈AT (M.map Aa.d),AE d:=fun d hd=>by
  obtain⟨m,hm,rfl⟩:=List.mem_map.1 (DM.1 hd);exact hM m hm
 refine⟨(Fq.all (fun d h=>(hd d h).pos) (I9 _)).hm,fun m hm=>hd _ (Lk m hm),?_⟩
 have h:=OV (AT (M.map Aa.d)) (AT (M.map Aa.d)).length
 rw[OU (Nat.le_refl _),Ee,List.length_map]at h
 simpa using h
theorem TN {M:List Aa}{D:List Ad}{i:Nat}(h:(uniq (AT D)).length≤i):Qh (Ce (AT (M.map Aa.d)),[]) (uniq (AT D)) i=Bu M D:=by
 rw[Qh,List.take_of_length_le h,Kw];unfold Bu;rfl
theorem NM {M:List Aa}{i:Nat}{m:Aa}(h:M[i]? =some m):(M.take (i+1)).map Aa.d=(M.take i).map Aa.d++[m.d]:=by rw[CP h];simp
attribute [local irreducible] AE FC CC BS BL B2 B0 Du
attribute [local irreducible] DW DX EL Fr A5 Ar Bu Fg F8
attribute [local irreducible] BF setM EA JE Qh uniq AT Ce
attribute [local irreducible] X
theorem Ll (am:Option Addr)(ms:List Aa)(cm:Nat)(ac:Option Addr)(ds:List Ad)(cc:Nat)(w:World)(hs:As w am ms)(ht:As w ac ds)(hl:ms.length+ds.length≤100000):
  Calls prog 205 #[.slice am ms.length cm,.slice ac ds.length cc] w (AS (fun v w'=>∃a1 c1 a2 c2,v= .tuple #[.agg #[.slice a1 (A5 ms ds).2.1.length c1,.slice a2 (A5 ms ds).2.2.length c2],.int .i64 (A5 ms ds).1]∧Af w' 46 a1 c1 (A5 ms ds).2.1∧Af w' 73 a2 c2 (A5 ms ds).2.2∧(∀q,own a1 q→¬own a2 q)∧(∀q,own a1 q→w.heap.size≤q)∧(∀q,own a2 q→w.heap.size≤q)∧Aq w w')):=by
 refine Ae (n:=115) func205 rfl rfl rfl ?_;refine jG ?_;refine jR<|jA ?_;intro a8 c6 bA a0 c7;have:w.heap.size≤a8:=bA;clear bA;have K0:=(c7:Aq w _);refine jG ?_;refine Aj.loop (ι:=Nat) (fun i ρ' w'=>∃a1:Option Addr,∃c1:Nat,Holds ρ' [(1,.slice ac ds.length cc),(4,jp a8),(6,.slice a1 (((ms.take i).map Aa.d).length) c1),(18,.slice am ms.length cm),(19,.int .i64 ((ms.length:Nat):Int)),(20,.int .i64 ((i:Nat):Int))]∧Aq w w'∧(AA w' a8 [.slice none 0 0,.slice none 0 0] 31)∧(Af w' 73 a1 c1 ((ms.take i).map Aa.d))∧(¬own a1 a8)∧(∀q_,own a1 q_→w.heap.size≤q_)∧(i≤ms.length)∧(∀j,j<i→∀m,ms[j]? =some m→AE m.d)) (fun i=>ms.length-i) 0 ?_ ?_
 ·have c8:=Af.nil (α:=Ad) c6 73
  refine⟨_,_,⟨rfl,rfl,rfl,rfl,rfl,rfl,trivial⟩,K0,a0,c8,(Ac a8),(fun q_ h1=>absurd h1 (Ac q_)),?_,?_⟩
  ·omega
  ·exact fun j hj=>absurd hj (Nat.not_lt_zero j)
 clear a0;clear K0;rintro i d0 d1 ⟨a1,c1,bB,K0,a0,a6,aE,b5,hi,hkM⟩ ih1;obtain⟨ρ₀,rfl⟩:=bB.ex;clear bB;refine jG ?_;refine jF ?_ ?_
 ·intro hc21
  obtain⟨d2,d3,m,hm,d4,aV⟩:=hs.eo i;have hc_16_lt:=aV.lt;replace aV:=aV.ext K0;refine jG ?_;refine jR<|jA ?_;intro d5 d6 aF ax b6;have d7:=Ai a0.lt aF;have d8:=Ai aV.lt aF;have c9:=Al a6.own_lt aF;have:=Nat.le_trans K0.size aF;clear aF;refine jR<|jS ax ?_;intro d9 ax b7;refine jG ?_;refine jR<|jC (HF m _) ?_;rintro _ da ⟨rfl,aW⟩;refine jR<|jC (Kp (Aa.d m) _) ?_;rintro _ db ⟨rfl,aX⟩;refine jG ?_;replace a0:=(((a0.ext b6).kp b7).ext aW).ext aX;replace a6:=(((a6.ext b6).keepO b7 (Ab c9)).ext aW).ext aX;replace K0:=(((K0.ext b6).n1 b7).ext aW).ext aX;replace ax:=(ax.ext aW).ext aX;refine jF ?_ ?_
  ·intro hc27
   refine jG ?_;refine jV (AC (cells:=#[.slice none 0 0,.slice none 0 0]) Zk) ?_;refine jR<|jS a0 ?_;intro dc a0 b8;refine jG ?_;refine Aj.retCT (x:= .int .i64 1) (cs:=#[.slice none 0 0,.slice none 0 0]) func205 rfl ty31 rfl rfl a0.cl rfl ?_;rw[OQ hm hc27];replace a6:=a6.keepO b8 (Ab aE);replace ax:=ax.kp b8;replace K0:=K0.n1 b8;exact⟨_,rfl,none,0,none,0,rfl,Af.nil _ _,Af.nil _ _,fun _ h_=>absurd h_ (Ac _),fun _ h_=>absurd h_ (Ac _),fun _ h_=>absurd h_ (Ac _),K0⟩
  ·intro hc27
   have hlt_:((ms.take i).map Aa.d).length≤ms.length:=by rw[List.length_map,List.length_take];omega
   refine jG ?_;refine jR<|jC (HF m _) ?_;rintro _ dd ⟨rfl,b9⟩;refine jR<|Av.buildSlice ([(Aa.d m)]:List Ad) underlying29 ty73 rfl rfl Ze ?_;intro de df ca cb ba;clear ca;replace a6:=(a6.ext b9).ext ba;refine jR<|Av.append (xs:=(ms.take i).map Aa.d) (ys:=([(Aa.d m)]:List Ad)) underlying29 ty73 rfl rfl rfl a6 cb.sl Zr Zd ?_;intro bC dg dh cd bD bb ce;replace a0:=(a0.ext b9).ext ba;have cf:¬own bC a8:=bb.not aE a0.lt;replace K0:=(K0.ext b9).ext ba;have cg:∀q_,own bC q_→w.heap.size≤q_:=bb.ge b5 K0.size;clear bb;clear ce;refine jG ?_;refine jV (At (c:=((i+1:Nat):Int)) (An rfl rfl Zo Zo) rfl) ?_;refine jG ?_;have e:=NM hm;refine ih1 (i+1) _ _ ?_ Zo;rw[e];replace a0:=a0.keep bD aE;replace K0:=K0.new bD b5;refine⟨_,_,⟨rfl,rfl,rfl,rfl,rfl,rfl,trivial⟩,K0,a0,cd,cf,cg,?_,?_⟩
   ·omega
   ·exact BA hkM (FO hm hc27)
 ·intro hc21
  rw[Jh (show ms.length≤i by omega)]at a6⊢;refine jG ?_;refine Aj.loop (ι:=Nat) (fun i ρ' w'=>Holds ρ' [(1,.slice ac ds.length cc),(4,jp a8),(6,.slice a1 ((ms.map Aa.d).length) c1),(35,.slice ac ds.length cc),(36,.int .i64 ((ds.length:Nat):Int)),(37,.int .i64 ((i:Nat):Int))]∧Aq w w'∧(AA w' a8 [.slice none 0 0,.slice none 0 0] 31)∧(Af w' 73 a1 c1 (ms.map Aa.d))∧(i≤ds.length)∧(∀j,j<i→∀d,ds[j]? =some d→AE d)) (fun i=>ds.length-i) 0 ?_ ?_
  ·refine⟨⟨rfl,rfl,rfl,rfl,rfl,rfl,trivial⟩,K0,a0,a6,?_,?_⟩
   ·omega
   ·exact fun j hj=>absurd hj (Nat.not_lt_zero j)
  clear a0 a6;clear K0;rintro i di dj ⟨bE,K0,a0,a6,hi,hkD⟩ ih2;obtain⟨ρ₀,rfl⟩:=bE.ex;clear bE;refine jG ?_;refine jF ?_ ?_
  ·intro hc38
   obtain⟨dk,dl,d,hd,dm,aY⟩:=ht.eo i;have hc_63_lt:=aY.lt;replace aY:=aY.ext K0;refine jG ?_;refine jR<|jA ?_;intro dn dp aG bF bc;have dq:=Ai a0.lt aG;have dr:=Ai aY.lt aG;have ch:=Al a6.own_lt aG;have:=Nat.le_trans K0.size aG;clear aG;refine jR<|jS bF ?_;intro dt bF be;refine jG ?_;refine jR<|jC (Kp d _) ?_;rintro _ du ⟨rfl,bg⟩;refine jG ?_;replace a0:=((a0.ext bc).kp be).ext bg;replace a6:=((a6.ext bc).keepO be (Ab ch)).ext bg;replace K0:=((K0.ext bc).n1 be).ext bg;refine jF ?_ ?_
   ·intro hc43
    refine jG ?_;refine jV (AC (cells:=#[.slice none 0 0,.slice none 0 0]) Zk) ?_;refine jR<|jS a0 ?_;intro dv a0 bG;refine jG ?_;refine Aj.retCT (x:= .int .i64 1) (cs:=#[.slice none 0 0,.slice none 0 0]) func205 rfl ty31 rfl rfl a0.cl rfl ?_;rw[OR hd hc43];replace a6:=a6.keepO bG (Ab aE);replace K0:=K0.n1 bG;exact⟨_,rfl,none,0,none,0,rfl,Af.nil _ _,Af.nil _ _,fun _ h_=>absurd h_ (Ac _),fun _ h_=>absurd h_ (Ac _),fun _ h_=>absurd h_ (Ac _),K0⟩
   ·intro hc43
    refine jG ?_;refine jV (At (c:=((i+1:Nat):Int)) (An rfl rfl Zo Zo) rfl) ?_;refine jG ?_;refine ih2 (i+1) _ _ ?_ Zo;refine⟨⟨rfl,rfl,rfl,rfl,rfl,rfl,trivial⟩,K0,a0,a6,?_,?_⟩
    ·omega
    ·exact BA hkD (FO hd hc43)
  ·intro hc38
   have hM:=GF hkM Zo;have hD:=GF hkD Zo;have hdm:∀d∈ms.map Aa.d,AE d:=fun d h_=>by obtain⟨m,hm,rfl⟩:=List.mem_map.1 h_;exact hM m hm
   refine jG ?_;refine jR<|jC (Mv a6 hdm (by first|omega|(simp only[List.length_map];omega))) ?_;rintro _ dw ⟨rfl,bH,bI⟩;replace a6:=bH;clear bH;rw[show(ms.map Aa.d).length=(AT (ms.map Aa.d)).length from(Ee _).symm];refine jG ?_;refine jR<|jA ?_;intro ad ci aZ a7 bh;replace a0:=a0.keep bI aE;have dx:=Ai a0.lt aZ;have bi:=Al a6.own_lt aZ;replace K0:=K0.new bI b5;have:=Nat.le_trans K0.size aZ;clear aZ;have hsl:(AT (ms.map Aa.d)).length=ms.length:=by rw[Ee,List.length_map]
   refine jG ?_;replace a0:=a0.ext bh;replace a6:=a6.ext bh;replace K0:=K0.ext bh;refine Aj.loop (ι:=Nat) (fun i ρ' w'=>∃a3:Option Addr,∃c3:Nat,Holds ρ' [(1,.slice ac ds.length cc),(4,jp a8),(11,jp ad),(48,.slice a1 ((AT (ms.map Aa.d)).length) c1),(49,.int .i64 (((AT (ms.map Aa.d)).length:Nat):Int)),(50,.int .i64 ((i:Nat):Int))]∧Aq w w'∧(AA w' a8 [.slice none 0 0,.slice none 0 0] 31)∧(AA w' ad [.slice a3 ((JE (AT (ms.map Aa.d)) i).length) c3,.slice none 0 0] 31)∧(Af w' 73 a1 c1 (AT (ms.map Aa.d)))∧(Af w' 46 a3 c3 (JE (AT (ms.map Aa.d)) i))∧(¬own a3 a8)∧(¬own a3 ad)∧(∀q_,own a3 q_→¬own a1 q_)∧(∀q_,own a3 q_→w.heap.size≤q_)∧(i≤(AT (ms.map Aa.d)).length)) (fun i=>(AT (ms.map Aa.d)).length-i) 0 ?_ ?_
   ·rw[RV]
    have cj:=Af.nil (α:=Aa) ci 46;refine⟨_,_,⟨rfl,rfl,rfl,rfl,rfl,rfl,trivial⟩,K0,a0,a7,a6,cj,(Ac a8),(Ac ad),(fun q_ h1 _=>Ac q_ h1),(fun q_ h1=>absurd h1 (Ac q_)),?_⟩
    ·omega
   clear a0 a6 a7;clear K0;rintro i dy dz ⟨a3,c3,bJ,K0,a0,a7,a6,a9,ai,aj,ak,al,hi⟩ ih3;obtain⟨ρ₀,rfl⟩:=bJ.ex;clear bJ;refine jG ?_;refine jF ?_ ?_
   ·intro hc51
    obtain⟨dA,dB,d,hd,dC,ck⟩:=a6.sl.eo i;refine jG ?_;refine jR<|jA ?_;intro dD dE an aa aH;have dF:=Ai a0.lt an;have dG:=Ai a7.lt an;have dH:=Ai ck.lt an;have cn:=Al a6.own_lt an;have bj:=Al a9.own_lt an;have:=Nat.le_trans K0.size an;clear an;refine jR<|jS aa ?_;intro dI aa aI;have hml:=OV (AT (ms.map Aa.d)) i;replace a7:=(a7.ext aH).kp aI;refine LO ?_;replace a0:=(a0.ext aH).kp aI;replace a6:=(a6.ext aH).keepO aI (Ab cn);replace a9:=(a9.ext aH).keepO aI (Ab bj);replace K0:=(K0.ext aH).n1 aI;by_cases hn:0<(JE (AT (ms.map Aa.d)) i).length
    ·obtain⟨dJ,dK,y,hy,co,ag⟩:=a9.sl.el (i:=((((JE (AT (ms.map Aa.d)) i).length:Nat):Int)-1).toNat) Zl
     refine Aj.drawS [] [0,1,2,3,1004,5,6,7,1008,1011,2009,2010,2012,13,14] ?_;intro dL ao;replace a7:=a7.ext ao;replace aa:=aa.ext ao;replace ag:=ag.ext ao;refine jM (jb a7 (jb aa (jl ag Jn))) ?_;refine Ex ?_;refine jP ?_ (hx:=by exact fun _=>(Cq (D6 rfl rfl) (decide_eq_true Zo)));refine jG ?_;refine jQ ?_ (hx:=by exact fun _ hg=>(BE rfl rfl Zo Zo));refine jQ ?_ (hx:=by exact fun _ hg=>(DG underlying28 ty46 rfl rfl co Zo Zl));refine jG ?_;refine jX rfl<|jC (HF y _) ?_;rintro _ dM ⟨rfl,ap⟩;replace a7:=a7.ext ap;replace aa:=aa.ext ap;replace ag:=ag.ext ap;refine jG ?_;refine jX rfl<|jC (GD (Aa.d y) _) ?_;rintro _ dN ⟨rfl,aq⟩;replace a7:=a7.ext aq;replace aa:=aa.ext aq;replace ag:=ag.ext aq;refine jG ?_;refine jX rfl<|jC (GD d _) ?_;rintro _ dO ⟨rfl,ar⟩;replace a7:=a7.ext ar;replace aa:=aa.ext ar;replace ag:=ag.ext ar;refine jG ?_;refine jQ ?_ (hx:=by exact fun _ hg=>(EC Zk rfl rfl (Ko (Ad.a (Aa.d y)) (Ad.a d))));refine jP ?_ (hx:=by exact fun _=>(Bv rfl rfl rfl));refine jG ?_;replace a0:=(((a0.ext ao).ext ap).ext aq).ext ar;replace a6:=(((a6.ext ao).ext ap).ext aq).ext ar;replace a9:=(((a9.ext ao).ext ap).ext aq).ext ar;replace K0:=(((K0.ext ao).ext ap).ext aq).ext ar;refine jF ?_ ?_
     ·intro hc71
      refine jG ?_;refine jV (BE rfl rfl Zo Zo) ?_;refine FJ ?_;obtain⟨dP,cp,y2,hy2,bK,cq⟩:=a9.sl.el (i:=((((JE (AT (ms.map Aa.d)) i).length:Nat):Int)-1).toNat) Zl;refine jV (DG underlying28 ty46 rfl rfl bK Zo Zl) ?_;refine jV (D7 (o':=cp+((((JE (AT (ms.map Aa.d)) i).length:Nat):Int)-1).toNat*3+2) underlying46 rfl ty3 rfl rfl rfl) ?_;refine jR<|Av.storeEl (v:= .int .i64 ((d).count)) (off:=2) (i:=((((JE (AT (ms.map Aa.d)) i).length:Nat):Int)-1).toNat) (⟨y2.node,y2.life,(d).count⟩:Aa) ty3 rfl rfl rfl Zv a9 bK hy2 rfl Zd rfl ?_;intro dQ bL aJ;clear cq;replace a9:=bL;clear bL;replace a7:=a7.keep aJ aj;rw[show(JE (AT (ms.map Aa.d)) i).length=((JE (AT (ms.map Aa.d)) i).set (((((JE (AT (ms.map Aa.d)) i).length:Nat):Int)-1).toNat) (⟨y2.node,y2.life,(d).count⟩:Aa)).length from(List.length_set ..).symm]at a7;refine jG ?_;refine jV (At (c:=((i+1:Nat):Int)) (An rfl rfl Zo Zo) rfl) ?_;refine jG ?_;obtain rfl:y=y2:=Option.some.inj (hy.symm.trans hy2);have e:=(Jj hd).trans ((NK (by rw[←DV hn];exact hy) hc71).trans (congrArg (fun k_=>List.set _ k_ _) (DV hn).symm));refine ih3 (i+1) _ _ ?_ Zo;rw[e];replace a0:=a0.keep aJ ai;replace a6:=a6.keepO aJ (Zf ak);replace aa:=aa.keep aJ bj;replace K0:=K0.new aJ al;refine⟨_,_,⟨rfl,rfl,rfl,rfl,rfl,rfl,trivial⟩,K0,a0,a7,a6,a9,ai,aj,ak,al,?_⟩
      ·omega
     ·intro hc71
      refine jG ?_;refine jR<|Av.buildSlice ([Ad.m d]:List Aa) underlying28 ty46 rfl rfl Ze ?_;intro dR dS cr ct ay;clear cr;replace a9:=a9.ext ay;refine jR<|Av.append (xs:=(JE (AT (ms.map Aa.d)) i)) (ys:=([Ad.m d]:List Aa)) underlying28 ty46 rfl rfl rfl a9 ct.sl Zr Zd ?_;intro b0 dT dU bk aK aL cu;replace a0:=a0.ext ay;have cv:¬own b0 a8:=aL.not ai a0.lt;replace a7:=a7.ext ay;have bM:¬own b0 ad:=aL.not aj a7.lt;replace a6:=a6.ext ay;have cw:∀q_,own b0 q_→¬own a1 q_:=aL.apart ak a6.own_lt;replace K0:=K0.ext ay;have cx:∀q_,own b0 q_→w.heap.size≤q_:=aL.ge al K0.size;clear aL;clear cu;refine jG ?_;replace a7:=a7.keep aK aj;refine jR<|jS a7 ?_;intro dV a7 aM;refine jG ?_;refine jV (At (c:=((i+1:Nat):Int)) (An rfl rfl Zo Zo) rfl) ?_;refine jG ?_;have e:=(Jj hd).trans (NL (by rw[←DV hn];exact hy) hc71);refine ih3 (i+1) _ _ ?_ Zo;rw[e];replace aa:=((aa.ext ay).keep aK bj).kp aM;replace a0:=(a0.keep aK ai).kp aM;replace a6:=(a6.keepO aK (Zf ak)).keepO aM (Ab bi);replace K0:=(K0.new aK al).n1 aM;replace bk:=bk.keepO aM (Ab bM);refine⟨_,_,⟨rfl,rfl,rfl,rfl,rfl,rfl,trivial⟩,K0,a0,a7,a6,bk,cv,bM,cw,cx,?_⟩
      ·omega
    ·refine Aj.drawS [] [0,1,2,3,4,5,6,7,8,11,2009,2010,2012,13,14] ?_
     intro dW az;refine jM Jn ?_;refine Ex ?_;refine jP ?_ (hx:=by exact fun _=>(CW (D6 rfl rfl) (decide_eq_false Zo)));refine jG ?_;refine jY ?_;refine jG ?_;refine jY ?_;refine jG ?_;refine jY ?_;refine jG ?_;refine jP ?_ (hx:=by exact fun _=>(AJ (b:=false) (e:=false) rfl rfl rfl));refine jG ?_;refine Aj.condF rfl ?_;replace a7:=a7.ext az;replace aa:=aa.ext az;refine jG ?_;refine jR<|Av.buildSlice ([Ad.m d]:List Aa) underlying28 ty46 rfl rfl Ze ?_;intro dX dY cy cz aN;clear cy;replace a9:=(a9.ext az).ext aN;refine jR<|Av.append (xs:=(JE (AT (ms.map Aa.d)) i)) (ys:=([Ad.m d]:List Aa)) underlying28 ty46 rfl rfl rfl a9 cz.sl Zr Zd ?_;intro b1 dZ e0 bl b2 aO cA;replace a0:=(a0.ext az).ext aN;have cB:¬own b1 a8:=aO.not ai a0.lt;replace a7:=a7.ext aN;have bN:¬own b1 ad:=aO.not aj a7.lt;replace a6:=(a6.ext az).ext aN;have cC:∀q_,own b1 q_→¬own a1 q_:=aO.apart ak a6.own_lt;replace K0:=(K0.ext az).ext aN;have cD:∀q_,own b1 q_→w.heap.size≤q_:=aO.ge al K0.size;clear aO;clear cA;refine jG ?_;replace a7:=a7.keep b2 aj;refine jR<|jS a7 ?_;intro e1 a7 b3;refine jG ?_;refine jV (At (c:=((i+1:Nat):Int)) (An rfl rfl Zo Zo) rfl) ?_;refine jG ?_;have e:=(Jj hd).trans (My hn);refine ih3 (i+1) _ _ ?_ Zo;rw[e];replace a0:=(a0.keep b2 ai).kp b3;replace a6:=(a6.keepO b2 (Zf ak)).keepO b3 (Ab bi);replace K0:=(K0.new b2 al).n1 b3;replace bl:=bl.keepO b3 (Ab bN);refine⟨_,_,⟨rfl,rfl,rfl,rfl,rfl,rfl,trivial⟩,K0,a0,a7,a6,bl,cB,bN,cC,cD,?_⟩
     ·omega
   ·intro hc51
    rw[OU (show(AT (ms.map Aa.d)).length≤i by omega)]at a9 a7;refine jG ?_;refine jR<|jC (Le _ _ _ _ (ht.ext K0) Zo) ?_;rintro _ e2 ⟨au,bO,rfl,ab,aA,aP⟩;have bP:=Ap aA a0.lt;have bm:=Ap aA a7.lt;have bQ:=Ao aA a6.own_lt;have bn:=Ao aA a9.own_lt;have bR:=A1 K0.size aA;clear aA;refine jG ?_;refine jR<|jC (Mv ab hD (by first|omega|(simp only[List.length_map];omega))) ?_;rintro _ e3 ⟨rfl,bS,aQ⟩;replace ab:=bS;clear bS;rw[show(ds).length=(AT ds).length from(Ee _).symm];refine jG ?_;refine jR<|jC (PX _ _ _ _ ab (by rw[Ee];omega)) ?_;rintro _ cE ⟨rfl,bT,aR⟩;replace ab:=bT;clear bT;have hU:=RY hD;have hul:(uniq (AT ds)).length≤ds.length:=by have:=TH (AT ds);rw[Ee]at this;exact this
    refine jG ?_;replace a0:=((a0.ext aP).keep aQ bP).keep aR bP;replace a7:=((a7.ext aP).keep aQ bm).keep aR bm;replace a6:=((a6.ext aP).keepO aQ (Zf bQ)).keepO aR (Zf bQ);replace a9:=((a9.ext aP).keepO aQ (Zf bn)).keepO aR (Zf bn);replace K0:=((K0.ext aP).new aQ bR).new aR bR;refine Aj.loop (ι:=Nat) (fun i ρ' w'=>∃a4:Option Addr,∃c4:Nat,∃a5:Option Addr,∃c5:Nat,Holds ρ' [(4,jp a8),(11,jp ad),(93,.slice au ((uniq (AT ds)).length) bO),(94,.int .i64 (((uniq (AT ds)).length:Nat):Int)),(95,.int .i64 ((i:Nat):Int))]∧Aq w w'∧(AA w' a8 [.slice none 0 0,.slice none 0 0] 31)∧(AA w' ad [.slice a4 (((Qh (Ce (AT (ms.map Aa.d)),[]) (uniq (AT ds)) i).1).length) c4,.slice a5 (((Qh (Ce (AT (ms.map Aa.d)),[]) (uniq (AT ds)) i).2).length) c5] 31)∧(Af w' 73 a1 c1 (AT (ms.map Aa.d)))∧(Af w' 73 au bO (uniq (AT ds)))∧(Af w' 46 a4 c4 ((Qh (Ce (AT (ms.map Aa.d)),[]) (uniq (AT ds)) i).1))∧(Af w' 73 a5 c5 ((Qh (Ce (AT (ms.map Aa.d)),[]) (uniq (AT ds)) i).2))∧(¬own a4 a8)∧(¬own a4 ad)∧(∀q_,own a4 q_→¬own a1 q_)∧(∀q_,own a4 q_→¬own au q_)∧(∀q_,own a4 q_→¬own a5 q_)∧(∀q_,own a4 q_→w.heap.size≤q_)∧(¬own a5 a8)∧(¬own a5 ad)∧(∀q_,own a5 q_→¬own a1 q_)∧(∀q_,own a5 q_→¬own au q_)∧(∀q_,own a5 q_→w.heap.size≤q_)∧(i≤(uniq (AT ds)).length)∧(V4 (Qh (Ce (AT (ms.map Aa.d)),[]) (uniq (AT ds)) i) (ms.length+i))) (fun i=>(uniq (AT ds)).length-i) 0 ?_ ?_
    ·rw[RW]
     have cF:=Af.nil (α:=Ad) cE 73;refine⟨_,_,_,_,⟨rfl,rfl,rfl,rfl,rfl,trivial⟩,K0,a0,a7,a6,ab,a9,cF,ai,aj,ak,(Zf bn),(fun q_ h1 h2=>(fun q_ h1 _=>Ac q_ h1) q_ h2 h1),al,(Ac a8),(Ac ad),(fun q_ h1 _=>Ac q_ h1),(fun q_ h1 _=>Ac q_ h1),(fun q_ h1=>absurd h1 (Ac q_)),?_,?_⟩
     ·omega
     ·exact RZ hM
    clear a0 a7 a6 a9 ab;clear K0;rintro i e4 e5 ⟨a4,c4,a5,c5,bU,K0,a0,a7,a6,ab,ae,af,bo,cG,cH,cI,bV,bW,bp,cJ,cK,cL,bX,hi,hG⟩ ih4;obtain⟨ρ₀,rfl⟩:=bU.ex;clear bU;refine jG ?_;refine jF ?_ ?_
    ·intro hc96
     obtain⟨e6,e7,d,hd,e8,cM⟩:=ab.sl.eo i;refine jG ?_;refine jR<|jA ?_;intro e9 ea ah bY av;have eb:=Ai a0.lt ah;have ec:=Ai a7.lt ah;have ed:=Ai cM.lt ah;have cN:=Al a6.own_lt ah;have cO:=Al ab.own_lt ah;have cP:=Al ae.own_lt ah;have cQ:=Al af.own_lt ah;have:=Nat.le_trans K0.size ah;clear ah;refine jR<|jS bY ?_;intro ee bY aw;replace a7:=(a7.ext av).kp aw;refine jG ?_;replace ae:=(ae.ext av).keepO aw (Ab cP);replace af:=(af.ext av).keepO aw (Ab cQ);refine jR<|jC (Va _ _ _ _ _ _ d _ ae af bV hG.hs hG.hm (hU d (Bc hd)) (by have:=hG.hl;omega) (by have:=hG.hl;omega)) ?_;rintro _ ef ⟨aS,eg,aT,eh,rfl,bq,bs,cR,aB,aC,aU⟩;have bt:¬(fun q_=>own a4 q_∨own a5 q_) a8:=fun x_=>((fun q_ h_=>h_) _ x_).elim bo (fun y_=>bp y_);have bu:¬(fun q_=>own a4 q_∨own a5 q_) ad:=fun x_=>((fun q_ h_=>h_) _ x_).elim cG (fun y_=>cJ y_);have bv:∀q_,(fun q_=>own a4 q_∨own a5 q_) q_→¬own a1 q_:=fun q_ x_ z_=>((fun q_ h_=>h_) _ x_).elim (fun y_=>cH q_ y_ z_) (fun y_=>(fun y_=>cK q_ y_ z_) y_);have bw:∀q_,(fun q_=>own a4 q_∨own a5 q_) q_→¬own au q_:=fun q_ x_ z_=>((fun q_ h_=>h_) _ x_).elim (fun y_=>cI q_ y_ z_) (fun y_=>(fun y_=>cL q_ y_ z_) y_);have bx:∀q_,(fun q_=>own a4 q_∨own a5 q_) q_→w.heap.size≤q_:=fun q_ x_=>((fun q_ h_=>h_) _ x_).elim (fun y_=>bW q_ y_) (fun y_=>(fun y_=>bX q_ y_) y_);replace a0:=(a0.ext av).kp aw;have cS:¬own aS a8:=aB.not bt a0.lt;have bZ:¬own aS ad:=aB.not bu a7.lt;replace a6:=(a6.ext av).keepO aw (Ab cN);have cT:∀q_,own aS q_→¬own a1 q_:=aB.apart bv a6.own_lt;replace ab:=(ab.ext av).keepO aw (Ab cO);have cU:∀q_,own aS q_→¬own au q_:=aB.apart bw ab.own_lt;replace K0:=(K0.ext av).n1 aw;have cV:∀q_,own aS q_→w.heap.size≤q_:=aB.ge bx K0.size;have cW:¬own aT a8:=aC.not bt a0.lt;have c0:¬own aT ad:=aC.not bu a7.lt;have cX:∀q_,own aT q_→¬own a1 q_:=aC.apart bv a6.own_lt;have cY:∀q_,own aT q_→¬own au q_:=aC.apart bw ab.own_lt;have cZ:∀q_,own aT q_→w.heap.size≤q_:=aC.ge bx K0.size;clear aB aC;replace a7:=a7.keep aU bu;refine jR<|jS a7 ?_;intro ei a7 aD;refine jG ?_;refine jV (At (c:=((i+1:Nat):Int)) (An rfl rfl Zo Zo) rfl) ?_;refine jG ?_;have e:=RX (c:=(Ce (AT (ms.map Aa.d)),[])) hd;refine ih4 (i+1) _ _ ?_ Zo;rw[e];replace a0:=(a0.keep aU bt).kp aD;replace a6:=(a6.keepO aU (Zf bv)).keepO aD (Ab bi);replace ab:=(ab.keepO aU (Zf bw)).keepO aD (Ab bm);replace K0:=(K0.new aU bx).n1 aD;replace bq:=bq.keepO aD (Ab bZ);replace bs:=bs.keepO aD (Ab c0);refine⟨_,_,_,_,⟨rfl,rfl,rfl,rfl,rfl,trivial⟩,K0,a0,a7,a6,ab,bq,bs,cS,bZ,cT,cU,cR,cV,cW,c0,cX,cY,cZ,?_,?_⟩
     ·omega
     ·exact hG.step (hU d (Bc hd))
    ·intro hc96
     rw[TN (show(uniq (AT ds)).length≤i by omega)]at ae af a7;refine jG ?_;refine jV (CI rfl rfl rfl) ?_;refine jG ?_;refine jF ?_ ?_
     ·intro hc112
      refine jG ?_;refine jV (AC (cells:=#[.slice none 0 0,.slice none 0 0]) Zk) ?_;refine jR<|jS a0 ?_;intro ej a0 b4;refine jG ?_;refine Aj.retCT (x:= .int .i64 4) (cs:=#[.slice none 0 0,.slice none 0 0]) func205 rfl ty31 rfl rfl a0.cl rfl ?_;rw[(DC hM hD).1 Zo];replace a7:=a7.kp b4;replace ae:=ae.keepO b4 (Ab bo);replace af:=af.keepO b4 (Ab bp);replace K0:=K0.n1 b4;exact⟨_,rfl,none,0,none,0,rfl,Af.nil _ _,Af.nil _ _,fun _ h_=>absurd h_ (Ac _),fun _ h_=>absurd h_ (Ac _),fun _ h_=>absurd h_ (Ac _),K0⟩
     ·intro hc112
      refine jG ?_;refine jR<|jS a0 ?_;intro ek a0 bz;refine jG ?_;refine Aj.retCT (x:= .int .i64 0) (cs:=#[.slice a4 (((Bu ms ds).1).length) c4,.slice a5 (((Bu ms ds).2).length) c5]) func205 rfl ty31 rfl rfl a0.cl rfl ?_;rw[(DC hM hD).2 Zo];replace ae:=ae.keepO bz (Ab bo);replace af:=af.keepO bz (Ab bp);replace K0:=K0.n1 bz;exact⟨_,rfl,a4,c4,a5,c5,rfl,ae,af,bV,bW,bX,K0⟩
end Go.Proofs.YtjkaicjmfgekjaaGreatDoor
