/-
  Ch, Ci, Cj
-/
import Derived.Test.YtocgdeefgohdhaaGreatRows
import Derived.Test.YtocgdeefgohdhaaGreatPmCf
import Derived.Test.YtocgdeefgohdhaaGreatPmBits
import Derived.Test.YtocgdeefgohdhaaGreatPmErr
import Derived.Test.YtocgdeefgohdhaaGreatPmI
set_option linter.all false
set_option maxRecDepth 100000
set_option maxHeartbeats 4000000
namespace Go.Proofs.YtocgdeefgohdhaaGreat
attribute [local irreducible] RD RS St1 RL RA RT RT1 Run
structure LowB (ms:List MarkC)(m:MarkC)(i:Nat):Prop where
 hi:i≤ms.length
 lo:∀k,k<i→∀x,ms[k]? =some x→ltM x m
 up:∀k,i≤k→∀x,ms[k]? =some x→¬ltM x m
theorem lb_lo {ms:List MarkC}{m y:MarkC}{h:Nat}(hs:ms.Pairwise ltM)(hx:ms[h]? =some y)(hl:ltM y m):∀k,k<h+1→∀x,ms[k]? =some x→ltM x m:=fun k hk x hxk=>by
 by_cases e:k=h
 ·subst e;rw[hx]at hxk;cases hxk;exact hl
 ·exact ltM_trans (pairwise_at hs (by omega) hxk hx) hl
theorem lb_up {ms:List MarkC}{m y:MarkC}{h:Nat}(hs:ms.Pairwise ltM)(hx:ms[h]? =some y)(hl:¬ltM y m):∀k,h≤k→∀x,ms[k]? =some x→¬ltM x m:=fun k hk x hxk h2=>by
 by_cases e:k=h
 ·subst e;rw[hx]at hxk;cases hxk;exact hl h2
 ·exact hl (ltM_trans (pairwise_at hs (by omega) hx hxk) h2)
theorem setM_same : ∀ {ms : List MarkC} {d : DotC} {i : Nat} {y : MarkC}, LowB ms d.m i → ms[i]? = some y → y.d.a = d.a → setM ms d = ms.set i ⟨y.node, y.life, d.count⟩
  | [], _, _, _, _, h2, _ => by cases h2
  | x :: ms, d, 0, y, h, h2, h3 => by
    simp only [List.getElem?_cons_zero, Option.some.injEq] at h2
    subst h2
    rw [setM, if_pos h3, List.set_cons_zero]
  | x :: ms, d, i + 1, y, h, h2, h3 => by
    have hx := h.lo 0 (by omega) x rfl
    rw [setM, if_neg (ltM_ne hx), if_neg (fun h4 => ltM_irr (ltM_trans hx h4)), List.set_cons_succ,
      setM_same (i := i) ⟨by have := h.hi; simpa using this, fun k hk z hz => h.lo (k + 1) (by omega) z (by simpa using hz), fun k hk z hz => h.up (k + 1) (by omega) z (by simpa using hz)⟩ (by simpa using h2) h3]
theorem setM_new : ∀ {ms : List MarkC} {d : DotC} {i : Nat}, LowB ms d.m i → (∀ y, ms[i]? = some y → y.d.a ≠ d.a) → setM ms d = insL ms i d.m
  | [], d, i, h, _ => by have := h.hi; simp at this; subst this; rfl
  | x :: ms, d, 0, h, h2 => by
    have hx := h.up 0 (Nat.le_refl _) x rfl
    have hn := h2 x rfl
    rw [setM, if_neg hn, if_pos ((ltM_tri (a := x) (b := d.m) hn).resolve_left hx)]
    rfl
  | x :: ms, d, i + 1, h, h2 => by
    have hx := h.lo 0 (by omega) x rfl
    rw [setM, if_neg (ltM_ne hx), if_neg (fun h4 => ltM_irr (ltM_trans hx h4)),
      setM_new (i := i) ⟨by have := h.hi; simpa using this, fun k hk z hz => h.lo (k + 1) (by omega) z (by simpa using hz), fun k hk z hz => h.up (k + 1) (by omega) z (by simpa using hz)⟩ (fun y hy => h2 y (by simpa using hy))]
    simp [insL]
theorem ordD_z0 {x:MarkC}{d:DotC}(h:ordD ⟨x.node,x.life,0⟩ ⟨d.node,d.life,0⟩=0):x.d.a=d.a:=by
 have:=ordD_eq.1 h;simp only[DotC.mk.injEq]at this;simp[MarkC.d,DotC.a,this.1,this.2.1]
theorem ordD_z0' {x:MarkC}{d:DotC}(h:¬ordD ⟨x.node,x.life,0⟩ ⟨d.node,d.life,0⟩=0):x.d.a≠d.a:=fun e=>h (by
 simp only[MarkC.d,DotC.a,ActorC.mk.injEq]at e;rw[ordD_eq];simp[e.1,e.2])
theorem mayD.z0 {d:DotC}(h:mayD d):smD ⟨d.node,d.life,0⟩:=by simp only[mayD,smD]at*;omega
theorem growX_A {ms:List MarkC}{cl:List DotC}{d:DotC}(h:d.count≤mkN ms d.a):growX (ms,cl) d=(ms,cl):=by rw[growX,if_pos h]
theorem growX_B {ms:List MarkC}{cl:List DotC}{d:DotC}(h:¬d.count≤mkN ms d.a)(h2:mkN ms d.a+1<d.count):growX (ms,cl) d=(ms,cl++[d]):=by rw[growX,if_neg h,if_pos h2]
theorem growX_C {ms:List MarkC}{cl:List DotC}{d:DotC}(h:¬d.count≤mkN ms d.a)(h2:¬mkN ms d.a+1<d.count):growX (ms,cl) d=(setM ms d,cl):=by rw[growX,if_neg h,if_neg h2]
theorem mkN_may' {ms:List MarkC}(h:∀m∈ms,mayD m.d)(a:ActorC):0≤mkN ms a∧mkN ms a≤1099511627776:=by
 by_cases hz:mkN ms a=0
 ·omega
 ·obtain⟨m,hm,-,e⟩:=mkN_mem hz
  have:=h m hm
  simp only[mayD,MarkC.d]at this
  omega
attribute [local irreducible] mayD smD ltD ltM ordD mkN Cov CovR
attribute [local irreducible] setX insX setR insR normE joinE normX rnd Raw
attribute [local irreducible] growX setM
attribute [local irreducible] X
theorem cmpMD_ (m:MarkC)(d:DotC)(w:World)(hm:mayD m.d)(hd:mayD d):
  Calls Tryz.prog 188 #[.agg #[.int .i64 ((m).node),.int .i64 ((m).life),.int .i64 ((m).count)],.agg #[.int .i64 ((d).node),.int .i64 ((d).life),.int .i64 ((d).count)]] w (Ret (fun v w'=>v= .int .i64 (ordD ⟨m.node,m.life,0⟩ ⟨d.node,d.life,0⟩)∧Ext w w')):=by
 refine calls_run (n:=16) Tryz.func188 rfl rfl rfl ?_;refine jG ?_;refine jR<|jB ?_;intro a4 a7 a2 a0 a5;have:w.heap.size≤a4:=a2;clear a2;have K0:=(a5:Ext w _);refine jR<|jB ?_;intro a8 a9 a1 aa a3;have ab:=ltLe a0.lt a1;have:=Nat.le_trans K0.size a1;clear a1;replace a0:=a0.ext a3;refine jG ?_;refine jV (x_build (cells:=#[.int .i64 ((m).node),.int .i64 ((m).life),.int .i64 (0)]) (by kernel_rfl)) ?_;refine jG ?_;refine jV (x_build (cells:=#[.int .i64 ((d).node),.int .i64 ((d).life),.int .i64 (0)]) (by kernel_rfl)) ?_;refine jR<|jC (order_ (⟨(m).node,(m).life,0⟩:DotC) (⟨(d).node,(d).life,0⟩:DotC) _ (mayD.z hm) hd.z0) ?_;rintro _ ac ⟨rfl,a6⟩;refine jG ?_;refine jJ Tryz.func188 ?_;replace K0:=(K0.ext a3).ext a6;exact⟨_,rfl,rfl,K0⟩
theorem bsearch_ (am:Option Addr)(ms:List MarkC)(cm:Nat)(d:DotC)(w:World)(hs:SlOf w am ms)(hS:ms.Pairwise ltM)(hM:∀m∈ms,mayD m.d)(hd:mayD d)(hl:ms.length≤1000000):
  Calls Tryz.prog 187 #[.slice (am) (ms.length) (cm),.agg #[.int .i64 ((d).node),.int .i64 ((d).life),.int .i64 ((d).count)],.func (.func 188) #[] #[]] w (Ret (fun v w'=>∃(i:Nat) (b:Bool),v= .tuple #[.int .i64 (i:Int),.bool b]∧LowB ms d.m i∧(b=true↔∃y,ms[i]? =some y∧y.d.a=d.a)∧Ext w w')):=by
 refine calls_run (n:=49) Tryz.func187 rfl rfl rfl ?_;refine jG ?_;refine jR<|jB ?_;intro a3 ae a8 a0 aa;have:w.heap.size≤a3:=a8;clear a8;have K0:=(aa:Ext w _);refine jG ?_;refine Run.loop (ι:=Nat) (fun m ρ' w'=>∃i:Nat,∃j:Nat,Holds ρ' [(0,.slice (am) (ms.length) (cm)),(2,.func (.func 188) #[] #[]),(4,jp a3),(8,.int .i64 (((ms.length:Nat):Int))),(9,.int .i64 (((i:Nat):Int))),(10,.int .i64 (((j:Nat):Int)))]∧Ext w w'∧(Blk w' a3 [.int .i64 ((d).node),.int .i64 ((d).life),.int .i64 ((d).count)] 87)∧(i≤j∧j≤ms.length)∧(∀k,k<i→∀x,ms[k]? =some x→ltM x d.m)∧(∀k,j≤k→∀x,ms[k]? =some x→¬ltM x d.m)∧(m=j-i)) (fun m=>m) ms.length ?_ ?_
 ·refine⟨0,ms.length,⟨rfl,rfl,rfl,rfl,rfl,rfl,trivial⟩,K0,a0,?_,?_,?_,?_⟩
  ·omega
  ·exact fun k hk=>absurd hk (Nat.not_lt_zero k)
  ·exact fun k hk x hx=>absurd (List.getElem?_eq_some_iff.1 hx).1 (by omega)
  ·omega
 clear a0;clear K0;rintro m af ag ⟨i,j,a9,K0,a0,hij,h1,h2,hm⟩ ih1;obtain⟨ρ₀,rfl⟩:=a9.ex;clear a9;refine jG ?_;refine jF ?_ ?_
 ·intro hc17
  refine jG ?_;refine jV (litI (c:=((i+j:Nat):Int)) (x_add rfl rfl (by omega) (by omega)) rfl) ?_;refine jV (x_convN (kd:= .u64) (a:=i+j) rfl ⟨_,Tryz.underlying3⟩ Tryz.underlying191 (show i+j<18446744073709551616 by omega)) ?_;refine jV (x_shrL (kd:= .u64) (a:=i+j) (b:=1) 2 (by decide) rfl rfl (by decide)) ?_;refine jV (x_convN (kd:= .i64) (a:=(i+j)/2) rfl ⟨_,Tryz.underlying191⟩ Tryz.underlying3 (show(i+j)/2<9223372036854775808 by omega)) ?_;refine jG ?_;obtain⟨ah,ai,y,hy,ab,a1⟩:=hs.el (i:=(i+j)/2) (by first|omega|(simp only[List.length_set];omega));have hc_14_lt:=a1.lt;refine Run.drawS [] [0,1,2,3,1004,1005,2006,7] ?_;intro aj a4;replace a1:=(a1.ext K0).ext a4;replace a0:=a0.ext a4;refine jM (jb a0 (jl a1 Jn)) ?_;refine jG2 ?_;refine jG1 ?_;refine jP ?_ (hx:=by exact fun _=>(x_idxN Tryz.underlying24 ty112 rfl rfl ab (by first|omega|(simp only[List.length_set];omega))));refine jG ?_;refine jU rfl<|St1.callV (vals:=[.agg #[.int .i64 ((y).node),.int .i64 ((y).life),.int .i64 ((y).count)],.agg #[.int .i64 ((d).node),.int .i64 ((d).life),.int .i64 ((d).count)]]) en188.h rfl rfl (cmpMD_ y d _ (hM y (mem_of_at hy)) hd) ?_;rintro _ ak ⟨rfl,a5⟩;replace a0:=a0.ext a5;replace a1:=a1.ext a5;refine jG ?_;replace K0:=(K0.ext a4).ext a5;refine jF ?_ ?_
  ·intro hc31
   refine jG ?_;refine jV (litI (c:=((((i+j)/2)+1:Nat):Int)) (x_add rfl rfl (by omega) (by omega)) rfl) ?_;refine jG ?_;refine ih1 (j-((i+j)/2+1)) _ _ ?_ (by omega);refine⟨((i+j)/2+1),j,⟨rfl,rfl,rfl,rfl,rfl,rfl,trivial⟩,K0,a0,?_,?_,?_,?_⟩
   ·omega
   ·exact lb_lo hS hy (ordD_lt' hc31)
   ·exact h2
   ·rfl
  ·intro hc31
   refine jG ?_;refine ih1 ((i+j)/2-i) _ _ ?_ (by omega);refine⟨i,((i+j)/2),⟨rfl,rfl,rfl,rfl,rfl,rfl,trivial⟩,K0,a0,?_,?_,?_,?_⟩
   ·omega
   ·exact h1
   ·exact lb_up hS hy (ordD_le hc31)
   ·rfl
 ·intro hc17
  refine Jct ?_;by_cases hL:i<ms.length
  ·obtain⟨al,an,z,hz,ac,a2⟩:=hs.eo i
   have hc_24_lt:=a2.lt;refine Run.drawS [] [0,1,2,3,4,5,6,7,8,1009,1010,2011,12,13,14,15] ?_;intro ao a6;replace a2:=(a2.ext K0).ext a6;replace a0:=a0.ext a6;refine jM (jb a0 (jl a2 Jn)) ?_;refine jG2 ?_;refine jG1 ?_;refine jP ?_ (hx:=by exact fun _=>(litT (x_ltI rfl rfl) (by simp;omega)));refine jG4 ?_;refine jQ ?_ (hx:=by exact fun _ hg=>(x_idxN Tryz.underlying24 ty112 rfl rfl ac (by first|omega|(simp only[List.length_set];omega))));refine jG ?_;refine jX rfl<|St1.callV (vals:=[.agg #[.int .i64 ((z).node),.int .i64 ((z).life),.int .i64 ((z).count)],.agg #[.int .i64 ((d).node),.int .i64 ((d).life),.int .i64 ((d).count)]]) en188.h rfl rfl (cmpMD_ z d _ (hM z (mem_of_at hz)) hd) ?_;rintro _ ap ⟨rfl,a7⟩;replace a0:=a0.ext a7;replace a2:=a2.ext a7;refine jG ?_;refine jP ?_ (hx:=by exact fun _=>(x_andT rfl rfl rfl));refine jG ?_;refine jK Tryz.func187 ?_;replace K0:=(K0.ext a6).ext a7;exact⟨_,rfl,i,_,rfl,⟨by omega,h1,fun k hk=>h2 k (by omega)⟩,⟨fun h_=>⟨z,hz,ordD_z0 (by simpa using h_)⟩,fun⟨y_,hy_,e_⟩=>by rw[hz]at hy_;cases hy_;exact Decidable.byContradiction fun h_=>ordD_z0' (by simpa using h_) e_⟩,K0⟩
  ·refine Run.drawS [] [0,1,2,3,4,5,6,7,8,9,10,2011,12,13,14,15] ?_
   intro aq ad;refine jM Jn ?_;refine jG2 ?_;refine jG1 ?_;refine jP ?_ (hx:=by exact fun _=>(litF (x_ltI rfl rfl) (by simp;omega)));refine jG ?_;refine jY ?_;refine jG ?_;refine jP ?_ (hx:=by exact fun _=>(x_and (b:=false) (e:=false) rfl rfl rfl));refine jG ?_;refine jK Tryz.func187 ?_;replace K0:=K0.ext ad;exact⟨_,rfl,i,_,rfl,⟨by omega,h1,fun k hk=>h2 k (by omega)⟩,⟨fun h_=>(by cases h_),fun⟨y_,hy_,_⟩=>by have:=(List.getElem?_eq_some_iff.1 hy_).1;omega⟩,K0⟩
end Go.Proofs.YtocgdeefgohdhaaGreat
namespace Go.Proofs.YtocgdeefgohdhaaGreat
attribute [local irreducible] RD RS St1 RL RA RT RT1 Run
attribute [local irreducible] mayD smD ltD ltM ordD mkN Cov CovR
attribute [local irreducible] setX insX setR insR normE joinE normX rnd Raw
attribute [local irreducible] growX setM insL
theorem union_mk {w:World}{A B C:Nat→Prop}(h:∀q,C q→q<w.heap.size→A q∨B q):MovedS w (fun q=>A q∨B q) C:=fun q hq=>if hl:q<w.heap.size then .inl (h q hq hl)else .inr (Nat.le_of_not_lt hl)
theorem setM_len (ms : List MarkC) (d : DotC) : (setM ms d).length ≤ ms.length + 1 := by
  induction ms with
  | nil => simp [setM]
  | cons m l ih =>
    rw [setM]
    split
    · simp
    · split <;> simp <;> omega
theorem growX_len (c:List MarkC×List DotC)(d:DotC):(growX c d).1.length+(growX c d).2.length≤c.1.length+c.2.length+1:=by
 have:=setM_len c.1 d
 unfold growX
 split
 ·omega
 ·split<;>simp<;>omega
theorem growX_may {c:List MarkC×List DotC}{d:DotC}(h:∀m∈c.1,mayD m.d)(hd:mayD d):∀m∈(growX c d).1,mayD m.d:=by
 unfold growX
 split
 ·exact h
 ·split
  ·exact h
  ·intro m hm
   rcases setM_mem hm with rfl|hm
   ·exact hd
   ·exact h m hm
theorem growX_sorted {c:List MarkC×List DotC}{d:DotC}(h:c.1.Pairwise ltM):(growX c d).1.Pairwise ltM:=by
 unfold growX
 split
 ·exact h
 ·split
  ·exact h
  ·exact setM_sorted h
attribute [local irreducible] X
theorem grown_ (am:Option Addr)(ms:List MarkC)(cm:Nat)(ac:Option Addr)(cl:List DotC)(cc:Nat)(d:DotC)(w:World)(ho:OwnSl w 112 am cm ms)(hk:OwnSl w 87 ac cc cl)(hap:∀q,own am q→¬own ac q)(hS:ms.Pairwise ltM)(hM:∀m∈ms,mayD m.d)(hd:mayD d)(hl:ms.length≤1000000)(hl2:cl.length≤1000000):
  Calls Tryz.prog 173 #[.agg #[.slice (am) (ms.length) (cm),.slice (ac) (cl.length) (cc)],.agg #[.int .i64 ((d).node),.int .i64 ((d).life),.int .i64 ((d).count)]] w (Ret (fun v w'=>∃a1 c1 a2 c2,v= .agg #[.slice a1 (growX (ms,cl) d).1.length c1,.slice a2 (growX (ms,cl) d).2.length c2]∧OwnSl w' 112 a1 c1 (growX (ms,cl) d).1∧OwnSl w' 87 a2 c2 (growX (ms,cl) d).2∧(∀q,own a1 q→¬own a2 q)∧MovedS w (fun q=>own am q∨own ac q) (own a1)∧MovedS w (fun q=>own am q∨own ac q) (own a2)∧Keeps (fun q=>own am q∨own ac q) w w')):=by
 have hin1:∀q,own am q→q<w.heap.size→own am q∨own ac q:=fun _ h _=> .inl h;have hin2:∀q,own ac q→q<w.heap.size→own am q∨own ac q:=fun _ h _=> .inr h;have hmk:=mkN_may' hM d.a;refine calls_run (n:=54) Tryz.func173 rfl rfl rfl ?_;refine jG ?_;refine jR<|jB ?_;intro az b2 au a0 aA;have av:=ltNo ho.own_lt au;have aB:=ltNo hk.own_lt au;have:w.heap.size≤az:=au;clear au;have K0:=(aA:Ext w _).to (S:=(fun q=>own am q∨own ac q));refine jR<|jB ?_;intro b3 b4 af a4 aw;have b5:=ltLe a0.lt af;replace ho:=ho.ext aA;have aK:=ltNo ho.own_lt af;replace hk:=hk.ext aA;have aL:=ltNo hk.own_lt af;have:=Nat.le_trans K0.size af;clear af;refine jR<|jA ?_;intro aF b6 a5 a3 ag;replace a0:=a0.ext aw;have b7:=ltLe a0.lt a5;have b8:=ltLe a4.lt a5;replace ho:=ho.ext aw;have a6:=ltNo ho.own_lt a5;replace hk:=hk.ext aw;have ah:=ltNo hk.own_lt a5;replace K0:=K0.ext aw;have:=Nat.le_trans K0.size a5;clear a5;refine jG ?_;refine Run.drawS [] [1000,1001,2002,2003,4] ?_;intro b9 a7;replace a0:=(a0.ext ag).ext a7;replace a4:=(a4.ext ag).ext a7;refine jM (jb a0 (jb a4 Jn)) ?_;refine jG ?_;refine jU rfl<|jC (actor_ d _) ?_;rintro _ ba ⟨rfl,a8⟩;replace a0:=a0.ext a8;replace a4:=a4.ext a8;refine jG ?_;replace ho:=((ho.ext ag).ext a7).ext a8;replace hk:=((hk.ext ag).ext a7).ext a8;refine jU rfl<|jC (mark_ am ms cm ac cl cc (DotC.a d) _ ho.sl hk.sl (by omega) (by omega)) ?_;rintro _ bb ⟨rfl,a9⟩;replace a0:=a0.ext a9;replace a4:=a4.ext a9;refine jG ?_;replace K0:=(((K0.ext ag).ext a7).ext a8).ext a9;replace a3:=((a3.ext a7).ext a8).ext a9;replace ho:=ho.ext a9;replace hk:=hk.ext a9;refine jF ?_ ?_
 ·intro hc12
  refine jG ?_;refine jR<|jS a3 ?_;intro bc a3 ai;replace K0:=K0.n1 ai;refine jG ?_;refine Run.retC (cs:=#[.slice (am) (ms.length) (cm),.slice (ac) (cl.length) (cc)]) Tryz.func173 rfl ty27 rfl rfl a3.cl ?_;rw[growX_A hc12];replace ho:=ho.keepO ai (noOne a6);replace hk:=hk.keepO ai (noOne ah);replace a0:=a0.kp ai;replace a4:=a4.kp ai;exact⟨_,rfl,am,cm,ac,cc,rfl,ho,hk,hap,union_mk hin1,union_mk hin2,K0⟩
 ·intro hc12
  refine jG ?_;refine jV (x_add rfl rfl (by omega) (by omega)) ?_;refine jG ?_;refine jF ?_ ?_
  ·intro hc18
   refine jG ?_;refine jR<|St1.buildSlice ([d]:List DotC) Tryz.underlying25 ty87 rfl rfl (by first|decide|(simp[Enc.size])) ?_;intro be bg aM aN aa;clear aM;replace hk:=hk.ext aa;refine jR<|St1.append (xs:=cl) (ys:=([d]:List DotC)) Tryz.underlying25 ty87 rfl rfl rfl hk aN.sl (by first|omega|(simp only[lr];omega)) (by decide) ?_;intro ab aG bh aC aj ak aO;replace ho:=ho.ext aa;have aP:∀q_,own ab q_→¬own am q_:=ak.apart (fun q_ h1 h2=>hap q_ h2 h1) ho.own_lt;replace a0:=a0.ext aa;have aQ:¬own ab az:=ak.not aB a0.lt;replace a3:=a3.ext aa;have aR:¬own ab aF:=ak.not ah a3.lt;replace K0:=K0.ext aa;have aS:∀q_,own ab q_→q_<w.heap.size→(fun q=>own am q∨own ac q) q_:=ak.inS hin2 K0.size;replace K0:=K0.trans aj (fun x hlt hx=>hin2 x hx hlt);clear ak;clear aO;refine jG ?_;replace a0:=a0.keep aj aB;refine jR<|jS a0 ?_;intro bi a0 al;replace K0:=K0.n1 al;refine jG ?_;replace a3:=(a3.keep aj ah).kp al;refine jR<|jS a3 ?_;intro bj a3 an;replace K0:=K0.n1 an;refine jG ?_;refine Run.retC (cs:=#[.slice (am) (ms.length) (cm),.slice (ab) ((cl++([d]:List DotC)).length) (aG)]) Tryz.func173 rfl ty27 rfl rfl a3.cl ?_;rw[growX_B (Int.not_le.2 hc12) hc18];replace a4:=(((a4.ext aa).keep aj aL).kp al).kp an;replace ho:=((ho.keepO aj hap).keepO al (noOne av)).keepO an (noOne a6);replace aC:=(aC.keepO al (noOne aQ)).keepO an (noOne aR);replace a0:=a0.kp an;exact⟨_,rfl,am,cm,ab,aG,rfl,ho,aC,(fun q_ h1 h2=>aP q_ h2 h1),union_mk hin1,union_mk aS,K0⟩
  ·intro hc18
   refine jG ?_;refine jR<|jC (bsearch_ _ ms _ d _ ho.sl hS hM hd (by omega)) ?_;rintro _ bk ⟨i,b,rfl,hL,hb,ad⟩;have hLi:=hL.hi;refine jG ?_;replace ho:=ho.ext ad;replace hk:=hk.ext ad;replace a0:=a0.ext ad;replace a4:=a4.ext ad;replace a3:=a3.ext ad;replace K0:=K0.ext ad;refine Run.cond rfl (fun hc38=> ?_) (fun hc38=> ?_)
   ·skip
    obtain⟨y,hy,he⟩:=hb.1 hc38;have hilt:=(List.getElem?_eq_some_iff.1 hy).1;obtain⟨bl,bm,y_,hy_,aT,aU⟩:=ho.sl.eo i;obtain rfl:y=y_:=Option.some.inj (hy.symm.trans hy_);refine jG ?_;refine jR<|St1.storeEl (v:= .int .i64 ((d).count)) (off:=2) (i:=i) (⟨y.node,y.life,(d).count⟩:MarkC) ty3 rfl rfl rfl (by simp[Value.cells,Value.oneCell']) ho aT hy_ rfl (by decide) rfl ?_;intro bn aH ao;clear aU;replace K0:=K0.trans ao (fun x hlt hx=>hin1 x hx hlt);replace ho:=aH;clear aH;replace a0:=a0.keep ao av;rw[show(ms).length=(ms.set i (⟨y.node,y.life,(d).count⟩:MarkC)).length from(List.length_set ..).symm]at a0;refine jG ?_;replace a3:=a3.keep ao a6;refine jR<|jS a3 ?_;intro bo a3 ap;replace K0:=K0.n1 ap;refine jG ?_;refine Run.retC (cs:=#[.slice (am) ((ms.set i (⟨y.node,y.life,(d).count⟩:MarkC)).length) (cm),.slice (ac) (cl.length) (cc)]) Tryz.func173 rfl ty27 rfl rfl a3.cl ?_;rw[growX_C (Int.not_le.2 hc12) (Int.not_lt.2 hc18),setM_same hL hy he];replace hk:=(hk.keepO ao (fun q_ h1 h2=>hap q_ h2 h1)).keepO ap (noOne ah);replace a4:=(a4.keep ao aK).kp ap;replace ho:=ho.keepO ap (noOne a6);replace a0:=a0.kp ap;exact⟨_,rfl,am,cm,ac,cc,rfl,ho,hk,hap,union_mk hin1,union_mk hin2,K0⟩
   ·skip
    refine jG ?_;refine jR<|St1.buildSlice ([DotC.m d]:List MarkC) Tryz.underlying24 ty112 rfl rfl (by first|decide|(simp[Enc.size])) ?_;intro aV bp aI aW aq;have aX:=apartNew (ge_new aI) ho.own_lt;clear aI;replace ho:=ho.ext aq;refine jR<|jC (insert1_ _ _ _ i d.m aV _ ho aW (fun h_=>(fun q_ h1 h2=>aX q_ h2 h1) _ h_ (own_some.2 rfl)) hLi (by omega)) ?_;rintro _ bq ⟨ae,aJ,rfl,aD,ar,ax⟩;replace hk:=hk.ext aq;have aY:∀q_,own ae q_→¬own ac q_:=ar.apart hap hk.own_lt;replace a0:=a0.ext aq;have aZ:¬own ae az:=ar.not av a0.lt;replace a3:=a3.ext aq;have b0:¬own ae aF:=ar.not a6 a3.lt;replace K0:=K0.ext aq;have b1:∀q_,own ae q_→q_<w.heap.size→(fun q=>own am q∨own ac q) q_:=ar.inS hin1 K0.size;replace K0:=K0.trans ax (fun x hlt hx=>hin1 x hx hlt);clear ar;refine jG ?_;replace a0:=a0.keep ax av;refine jR<|jS a0 ?_;intro bs a0 ay;replace K0:=K0.n1 ay;refine jG ?_;replace a3:=(a3.keep ax a6).kp ay;refine jR<|jS a3 ?_;intro bt a3 aE;replace K0:=K0.n1 aE;refine jG ?_;refine Run.retC (cs:=#[.slice (ae) ((insL ms i d.m).length) (aJ),.slice (ac) (cl.length) (cc)]) Tryz.func173 rfl ty27 rfl rfl a3.cl ?_;rw[growX_C (Int.not_le.2 hc12) (Int.not_lt.2 hc18),setM_new hL (fun y_ hy_ e_=>by have h_:=hb.2 ⟨y_,hy_,e_⟩;rw[hc38]at h_;cases h_)];replace hk:=((hk.keepO ax (fun q_ h1 h2=>hap q_ h2 h1)).keepO ay (noOne aB)).keepO aE (noOne ah);replace aD:=(aD.keepO ay (noOne aZ)).keepO aE (noOne b0);exact⟨_,rfl,ae,aJ,ac,cc,rfl,aD,hk,aY,union_mk b1,union_mk hin2,K0⟩
end Go.Proofs.YtocgdeefgohdhaaGreat
namespace Go.Proofs.YtocgdeefgohdhaaGreat
attribute [local irreducible] RD RS St1 RL RA RT RT1 Run
def mgX (l:List DotC)(i:Nat):List MarkC:=(l.take i).foldl mergeM []
theorem mgX_zero (l:List DotC):mgX l 0=[]:=rfl
theorem mgX_succ {l:List DotC}{i:Nat}{d:DotC}(h:l[i]? =some d):mgX l (i+1)=mergeM (mgX l i) d:=fold_at h
theorem mgX_all {l:List DotC}{i:Nat}(h:l.length≤i):mgX l i=marksOf l:=by rw[mgX,List.take_of_length_le h];rfl
theorem getLast_at {α:Type}{l:List α}{y:α}(h:l[l.length-1]? =some y):l.getLast? =some y:=by rw[List.getLast?_eq_getElem?];exact h
theorem mergeM_set {l:List MarkC}{d:DotC}{y:MarkC}(h:l[l.length-1]? =some y)(ha:y.d.a=d.a):mergeM l d=l.set (l.length-1) ⟨y.node,y.life,d.count⟩:=by
 rw[mergeM,getLast_at h]
 simp only
 rw[if_pos ha]
 have hn:l≠ []:=fun e=>by subst e;cases h
 have e:=List.dropLast_concat_getLast hn
 have hl:l.dropLast.length=l.length-1:=List.length_dropLast
 conv=>rhs;rw[←e]
 rw[List.set_append_right _ _ (by rw[hl];simp),List.length_append,hl]
 simp
theorem mergeM_app {l:List MarkC}{d:DotC}{y:MarkC}(h:l[l.length-1]? =some y)(ha:¬y.d.a=d.a):mergeM l d=l++[d.m]:=by
 rw[mergeM,getLast_at h]
 simp only
 rw[if_neg ha]
theorem mergeM_app0 {l:List MarkC}{d:DotC}(h:¬0<l.length):mergeM l d=l++[d.m]:=by
 have:l=[]:=List.eq_nil_of_length_eq_zero (by omega)
 subst this;rfl
theorem mgX_len (l : List DotC) (i : Nat) : (mgX l i).length ≤ i := by
  have key : ∀ (r : List DotC) (acc : List MarkC), (r.foldl mergeM acc).length ≤ acc.length + r.length := by
    intro r
    induction r with
    | nil => intro acc; simp
    | cons d r ih =>
      intro acc
      have := ih (mergeM acc d)
      have h2 : (mergeM acc d).length ≤ acc.length + 1 := by
        unfold mergeM
        split
        · split <;> simp <;> omega
        · simp
      rw [List.foldl_cons, List.length_cons]; omega
  have := key (l.take i) []
  have h3 : (l.take i).length ≤ i := by rw [List.length_take]; omega
  simp only [List.length_nil, Nat.zero_add] at this
  unfold mgX; omega
theorem marksOf_from {l : List DotC} : ∀ m ∈ marksOf l, m.d ∈ l := by
  have key : ∀ (r : List DotC) (acc : List MarkC) (s : List DotC), (∀ m ∈ acc, m.d ∈ s) → ∀ m ∈ r.foldl mergeM acc, m.d ∈ s ++ r := by
    intro r
    induction r with
    | nil => intro acc s h m hm; simpa using h m hm
    | cons d r ih =>
      intro acc s h m hm
      have := ih (mergeM acc d) (s ++ [d]) (fun x hx => ?_) m hm
      · simpa using this
      · rcases List.eq_nil_or_concat acc with rfl | ⟨ls, y, rfl⟩
        · rw [mergeM_nil, List.mem_singleton] at hx; subst hx; simp
        · rw [List.concat_eq_append, mergeM_snoc] at hx
          split at hx
          · rename_i ha
            rcases List.mem_append.1 hx with h2 | h2
            · exact List.mem_append_left _ (h x (by simp [h2]))
            · rw [List.mem_singleton] at h2; subst h2
              simp only [MarkC.d, DotC.a, ActorC.mk.injEq] at ha
              refine List.mem_append_right _ (List.mem_singleton.2 ?_)
              exact DotC.eta ha.1 ha.2 rfl
          · rcases List.mem_append.1 hx with h2 | h2
            · exact List.mem_append_left _ (h x (by simpa using h2))
            · rw [List.mem_singleton] at h2; subst h2; simp
  intro m hm
  simpa using key l [] [] (by simp) m hm
def gwX (c:List MarkC×List DotC)(l:List DotC)(i:Nat):List MarkC×List DotC:=(l.take i).foldl growX c
theorem gwX_zero (c:List MarkC×List DotC)(l:List DotC):gwX c l 0=c:=rfl
theorem gwX_succ {c:List MarkC×List DotC}{l:List DotC}{i:Nat}{d:DotC}(h:l[i]? =some d):gwX c l (i+1)=growX (gwX c l i) d:=fold_at h
structure GwI (c:List MarkC×List DotC)(n:Nat):Prop where
 hs:c.1.Pairwise ltM
 hm:∀m∈c.1,mayD m.d
 hl:c.1.length+c.2.length≤n
theorem GwI.step {c:List MarkC×List DotC}{n:Nat}{d:DotC}(h:GwI c n)(hd:mayD d):GwI (growX c d) (n+1):=⟨growX_sorted h.hs,growX_may h.hm hd,by have:=growX_len c d;have:=h.hl;omega⟩
theorem uniq_may {l:List DotC}(h:∀d∈l,mayD d):∀d∈uniq (sortD l),mayD d:=fun d hd=>by rw[uniq_comp]at hd;exact h d (sortD_mem.1 (compD_mem.1 hd))
theorem sortD_len (l:List DotC):(sortD l).length=l.length:=List.length_mergeSort _
theorem marks_gw {M:List MarkC}(hM:∀m∈M,mayD m.d):GwI (marksOf (sortD (M.map MarkC.d)),[]) M.length:=by
 have hd:∀d∈sortD (M.map MarkC.d),mayD d:=fun d hd=>by
  obtain⟨m,hm,rfl⟩:=List.mem_map.1 (sortD_mem.1 hd);exact hM m hm
 refine⟨(Merged.all (fun d h=>(hd d h).pos) (sortD_le _)).hm,fun m hm=>hd _ (marksOf_from m hm),?_⟩
 have h:=mgX_len (sortD (M.map MarkC.d)) (sortD (M.map MarkC.d)).length
 rw[mgX_all (Nat.le_refl _),sortD_len,List.length_map]at h
 simpa using h
theorem gw_norm {M:List MarkC}{D:List DotC}{i:Nat}(h:(uniq (sortD D)).length≤i):gwX (marksOf (sortD (M.map MarkC.d)),[]) (uniq (sortD D)) i=normX M D:=by
 rw[gwX,List.take_of_length_le h,uniq_comp];unfold normX;rfl
theorem map_d_succ {M:List MarkC}{i:Nat}{m:MarkC}(h:M[i]? =some m):(M.take (i+1)).map MarkC.d=(M.take i).map MarkC.d++[m.d]:=by rw[take_snocD h];simp
attribute [local irreducible] mayD smD ltD ltM ordD mkN Cov CovR
attribute [local irreducible] setX insX setR insR normE joinE normX rnd Raw
attribute [local irreducible] growX setM insL mgX gwX uniq sortD marksOf
attribute [local irreducible] X
theorem normal_ (am:Option Addr)(ms:List MarkC)(cm:Nat)(ac:Option Addr)(ds:List DotC)(cc:Nat)(w:World)(hs:SlOf w am ms)(ht:SlOf w ac ds)(hl:ms.length+ds.length≤100000):
  Calls Tryz.prog 165 #[.slice (am) (ms.length) (cm),.slice (ac) (ds.length) (cc)] w (Ret (fun v w'=>∃a1 c1 a2 c2,v= .tuple #[.agg #[.slice a1 ((normE ms ds)).2.1.length c1,.slice a2 ((normE ms ds)).2.2.length c2],.int .i64 ((normE ms ds)).1]∧OwnSl w' 112 a1 c1 ((normE ms ds)).2.1∧OwnSl w' 87 a2 c2 ((normE ms ds)).2.2∧(∀q,own a1 q→¬own a2 q)∧(∀q,own a1 q→w.heap.size≤q)∧(∀q,own a2 q→w.heap.size≤q)∧Ext w w')):=by
 refine calls_run (n:=115) Tryz.func165 rfl rfl rfl ?_;refine jG ?_;refine jR<|jA ?_;intro a8 c6 bA a0 c7;have:w.heap.size≤a8:=bA;clear bA;have K0:=(c7:Ext w _);refine jG ?_;refine Run.loop (ι:=Nat) (fun i ρ' w'=>∃a1:Option Addr,∃c1:Nat,Holds ρ' [(1,.slice (ac) (ds.length) (cc)),(4,jp a8),(6,.slice (a1) (((ms.take i).map MarkC.d).length) (c1)),(18,.slice (am) (ms.length) (cm)),(19,.int .i64 (((ms.length:Nat):Int))),(20,.int .i64 (((i:Nat):Int)))]∧Ext w w'∧(Blk w' a8 [.slice (none) (0) (0),.slice (none) (0) (0)] 27)∧(OwnSl w' 87 a1 c1 ((ms.take i).map MarkC.d))∧(¬own a1 a8)∧(∀q_,own a1 q_→w.heap.size≤q_)∧(i≤ms.length)∧(∀j,j<i→∀m,ms[j]? =some m→mayD m.d)) (fun i=>ms.length-i) 0 ?_ ?_
 ·have c8:=OwnSl.nil (α:=DotC) c6 87
  refine⟨_,_,⟨rfl,rfl,rfl,rfl,rfl,rfl,trivial⟩,K0,a0,c8,(own_none a8),(fun q_ h1=>absurd h1 (own_none q_)),?_,?_⟩
  ·omega
  ·exact fun j hj=>absurd hj (Nat.not_lt_zero j)
 clear a0;clear K0;rintro i d0 d1 ⟨a1,c1,bB,K0,a0,a6,aE,b5,hi,hkM⟩ ih1;obtain⟨ρ₀,rfl⟩:=bB.ex;clear bB;refine jG ?_;refine jF ?_ ?_
 ·intro hc21
  obtain⟨d2,d3,m,hm,d4,aV⟩:=hs.eo i;have hc_16_lt:=aV.lt;replace aV:=aV.ext K0;refine jG ?_;refine jR<|jA ?_;intro d5 d6 aF ax b6;have d7:=ltLe a0.lt aF;have d8:=ltLe aV.lt aF;have c9:=ltNo a6.own_lt aF;have:=Nat.le_trans K0.size aF;clear aF;refine jR<|jS ax ?_;intro d9 ax b7;refine jG ?_;refine jR<|jC (first_ m _) ?_;rintro _ da ⟨rfl,aW⟩;refine jR<|jC (may_ (MarkC.d m) _) ?_;rintro _ db ⟨rfl,aX⟩;refine jG ?_;replace a0:=(((a0.ext b6).kp b7).ext aW).ext aX;replace a6:=(((a6.ext b6).keepO b7 (noOne c9)).ext aW).ext aX;replace K0:=(((K0.ext b6).n1 b7).ext aW).ext aX;replace ax:=(ax.ext aW).ext aX;refine jF ?_ ?_
  ·intro hc27
   refine jG ?_;refine jV (x_build (cells:=#[.slice (none) (0) (0),.slice (none) (0) (0)]) (by kernel_rfl)) ?_;refine jR<|jS a0 ?_;intro dc a0 b8;refine jG ?_;refine Run.retCT (x:= .int .i64 (1)) (cs:=#[.slice (none) (0) (0),.slice (none) (0) (0)]) Tryz.func165 rfl ty27 rfl rfl a0.cl rfl ?_;rw[normE_m hm hc27];replace a6:=a6.keepO b8 (noOne aE);replace ax:=ax.kp b8;replace K0:=K0.n1 b8;exact⟨_,rfl,none,0,none,0,rfl,OwnSl.nil _ _,OwnSl.nil _ _,fun _ h_=>absurd h_ (own_none _),fun _ h_=>absurd h_ (own_none _),fun _ h_=>absurd h_ (own_none _),K0⟩
  ·intro hc27
   have hlt_:((ms.take i).map MarkC.d).length≤ms.length:=by rw[List.length_map,List.length_take];omega
   refine jG ?_;refine jR<|jC (first_ m _) ?_;rintro _ dd ⟨rfl,b9⟩;refine jR<|St1.buildSlice ([(MarkC.d m)]:List DotC) Tryz.underlying25 ty87 rfl rfl (by first|decide|(simp[Enc.size])) ?_;intro de df ca cb ba;clear ca;replace a6:=(a6.ext b9).ext ba;refine jR<|St1.append (xs:=(ms.take i).map MarkC.d) (ys:=([(MarkC.d m)]:List DotC)) Tryz.underlying25 ty87 rfl rfl rfl a6 cb.sl (by first|omega|(simp only[lr];omega)) (by decide) ?_;intro bC dg dh cd bD bb ce;replace a0:=(a0.ext b9).ext ba;have cf:¬own bC a8:=bb.not aE a0.lt;replace K0:=(K0.ext b9).ext ba;have cg:∀q_,own bC q_→w.heap.size≤q_:=bb.ge b5 K0.size;clear bb;clear ce;refine jG ?_;refine jV (litI (c:=((i+1:Nat):Int)) (x_add rfl rfl (by omega) (by omega)) rfl) ?_;refine jG ?_;have e:=map_d_succ hm;refine ih1 (i+1) _ _ ?_ (by omega);rw[e];replace a0:=a0.keep bD aE;replace K0:=K0.new bD b5;refine⟨_,_,⟨rfl,rfl,rfl,rfl,rfl,rfl,trivial⟩,K0,a0,cd,cf,cg,?_,?_⟩
   ·omega
   ·exact upto_succ hkM (one_at hm hc27)
 ·intro hc21
  rw[take_all (show ms.length≤i by omega)]at a6⊢;refine jG ?_;refine Run.loop (ι:=Nat) (fun i ρ' w'=>Holds ρ' [(1,.slice (ac) (ds.length) (cc)),(4,jp a8),(6,.slice (a1) ((ms.map MarkC.d).length) (c1)),(35,.slice (ac) (ds.length) (cc)),(36,.int .i64 (((ds.length:Nat):Int))),(37,.int .i64 (((i:Nat):Int)))]∧Ext w w'∧(Blk w' a8 [.slice (none) (0) (0),.slice (none) (0) (0)] 27)∧(OwnSl w' 87 (a1) (c1) (ms.map MarkC.d))∧(i≤ds.length)∧(∀j,j<i→∀d,ds[j]? =some d→mayD d)) (fun i=>ds.length-i) 0 ?_ ?_
  ·refine⟨⟨rfl,rfl,rfl,rfl,rfl,rfl,trivial⟩,K0,a0,a6,?_,?_⟩
   ·omega
   ·exact fun j hj=>absurd hj (Nat.not_lt_zero j)
  clear a0 a6;clear K0;rintro i di dj ⟨bE,K0,a0,a6,hi,hkD⟩ ih2;obtain⟨ρ₀,rfl⟩:=bE.ex;clear bE;refine jG ?_;refine jF ?_ ?_
  ·intro hc38
   obtain⟨dk,dl,d,hd,dm,aY⟩:=ht.eo i;have hc_63_lt:=aY.lt;replace aY:=aY.ext K0;refine jG ?_;refine jR<|jA ?_;intro dn dp aG bF bc;have dq:=ltLe a0.lt aG;have dr:=ltLe aY.lt aG;have ch:=ltNo a6.own_lt aG;have:=Nat.le_trans K0.size aG;clear aG;refine jR<|jS bF ?_;intro dt bF be;refine jG ?_;refine jR<|jC (may_ d _) ?_;rintro _ du ⟨rfl,bg⟩;refine jG ?_;replace a0:=((a0.ext bc).kp be).ext bg;replace a6:=((a6.ext bc).keepO be (noOne ch)).ext bg;replace K0:=((K0.ext bc).n1 be).ext bg;refine jF ?_ ?_
   ·intro hc43
    refine jG ?_;refine jV (x_build (cells:=#[.slice (none) (0) (0),.slice (none) (0) (0)]) (by kernel_rfl)) ?_;refine jR<|jS a0 ?_;intro dv a0 bG;refine jG ?_;refine Run.retCT (x:= .int .i64 (1)) (cs:=#[.slice (none) (0) (0),.slice (none) (0) (0)]) Tryz.func165 rfl ty27 rfl rfl a0.cl rfl ?_;rw[normE_d hd hc43];replace a6:=a6.keepO bG (noOne aE);replace K0:=K0.n1 bG;exact⟨_,rfl,none,0,none,0,rfl,OwnSl.nil _ _,OwnSl.nil _ _,fun _ h_=>absurd h_ (own_none _),fun _ h_=>absurd h_ (own_none _),fun _ h_=>absurd h_ (own_none _),K0⟩
   ·intro hc43
    refine jG ?_;refine jV (litI (c:=((i+1:Nat):Int)) (x_add rfl rfl (by omega) (by omega)) rfl) ?_;refine jG ?_;refine ih2 (i+1) _ _ ?_ (by omega);refine⟨⟨rfl,rfl,rfl,rfl,rfl,rfl,trivial⟩,K0,a0,a6,?_,?_⟩
    ·omega
    ·exact upto_succ hkD (one_at hd hc43)
  ·intro hc38
   have hM:=all_at hkM (by omega);have hD:=all_at hkD (by omega);have hdm:∀d∈ms.map MarkC.d,mayD d:=fun d h_=>by obtain⟨m,hm,rfl⟩:=List.mem_map.1 h_;exact hM m hm
   refine jG ?_;refine jR<|jC (sortDots a6 hdm (by first|omega|(simp only[List.length_map];omega))) ?_;rintro _ dw ⟨rfl,bH,bI⟩;replace a6:=bH;clear bH;rw[show(ms.map MarkC.d).length=(sortD (ms.map MarkC.d)).length from(sortD_len _).symm];refine jG ?_;refine jR<|jA ?_;intro ad ci aZ a7 bh;replace a0:=a0.keep bI aE;have dx:=ltLe a0.lt aZ;have bi:=ltNo a6.own_lt aZ;replace K0:=K0.new bI b5;have:=Nat.le_trans K0.size aZ;clear aZ;have hsl:(sortD (ms.map MarkC.d)).length=ms.length:=by rw[sortD_len,List.length_map]
   refine jG ?_;replace a0:=a0.ext bh;replace a6:=a6.ext bh;replace K0:=K0.ext bh;refine Run.loop (ι:=Nat) (fun i ρ' w'=>∃a3:Option Addr,∃c3:Nat,Holds ρ' [(1,.slice (ac) (ds.length) (cc)),(4,jp a8),(11,jp ad),(48,.slice (a1) ((sortD (ms.map MarkC.d)).length) (c1)),(49,.int .i64 ((((sortD (ms.map MarkC.d)).length:Nat):Int))),(50,.int .i64 (((i:Nat):Int)))]∧Ext w w'∧(Blk w' a8 [.slice (none) (0) (0),.slice (none) (0) (0)] 27)∧(Blk w' ad [.slice (a3) (((mgX (sortD (ms.map MarkC.d)) i)).length) (c3),.slice (none) (0) (0)] 27)∧(OwnSl w' 87 (a1) (c1) (sortD (ms.map MarkC.d)))∧(OwnSl w' 112 a3 c3 ((mgX (sortD (ms.map MarkC.d)) i)))∧(¬own a3 a8)∧(¬own a3 ad)∧(∀q_,own a3 q_→¬own a1 q_)∧(∀q_,own a3 q_→w.heap.size≤q_)∧(i≤(sortD (ms.map MarkC.d)).length)) (fun i=>(sortD (ms.map MarkC.d)).length-i) 0 ?_ ?_
   ·rw[mgX_zero]
    have cj:=OwnSl.nil (α:=MarkC) ci 112;refine⟨_,_,⟨rfl,rfl,rfl,rfl,rfl,rfl,trivial⟩,K0,a0,a7,a6,cj,(own_none a8),(own_none ad),(fun q_ h1 _=>own_none q_ h1),(fun q_ h1=>absurd h1 (own_none q_)),?_⟩
    ·omega
   clear a0 a6 a7;clear K0;rintro i dy dz ⟨a3,c3,bJ,K0,a0,a7,a6,a9,ai,aj,ak,al,hi⟩ ih3;obtain⟨ρ₀,rfl⟩:=bJ.ex;clear bJ;refine jG ?_;refine jF ?_ ?_
   ·intro hc51
    obtain⟨dA,dB,d,hd,dC,ck⟩:=a6.sl.eo i;refine jG ?_;refine jR<|jA ?_;intro dD dE an aa aH;have dF:=ltLe a0.lt an;have dG:=ltLe a7.lt an;have dH:=ltLe ck.lt an;have cn:=ltNo a6.own_lt an;have bj:=ltNo a9.own_lt an;have:=Nat.le_trans K0.size an;clear an;refine jR<|jS aa ?_;intro dI aa aI;have hml:=mgX_len (sortD (ms.map MarkC.d)) i;replace a7:=(a7.ext aH).kp aI;refine jG4 ?_;replace a0:=(a0.ext aH).kp aI;replace a6:=(a6.ext aH).keepO aI (noOne cn);replace a9:=(a9.ext aH).keepO aI (noOne bj);replace K0:=(K0.ext aH).n1 aI;by_cases hn:0<(mgX (sortD (ms.map MarkC.d)) i).length
    ·obtain⟨dJ,dK,y,hy,co,ag⟩:=a9.sl.el (i:=(((((mgX (sortD (ms.map MarkC.d)) i)).length:Nat):Int)-1).toNat) (by first|omega|(simp only[List.length_set];omega))
     refine Run.drawS [] [0,1,2,3,1004,5,6,7,1008,1011,2009,2010,2012,13,14] ?_;intro dL ao;replace a7:=a7.ext ao;replace aa:=aa.ext ao;replace ag:=ag.ext ao;refine jM (jb a7 (jb aa (jl ag Jn))) ?_;refine jG1 ?_;refine jP ?_ (hx:=by exact fun _=>(litT (x_gtI rfl rfl) (decide_eq_true (by omega))));refine jG ?_;refine jQ ?_ (hx:=by exact fun _ hg=>(x_sub rfl rfl (by omega) (by omega)));refine jQ ?_ (hx:=by exact fun _ hg=>(x_idxZ Tryz.underlying24 ty112 rfl rfl co (by omega) (by first|omega|(simp only[List.length_set];omega))));refine jG ?_;refine jX rfl<|jC (first_ y _) ?_;rintro _ dM ⟨rfl,ap⟩;replace a7:=a7.ext ap;replace aa:=aa.ext ap;replace ag:=ag.ext ap;refine jG ?_;refine jX rfl<|jC (actor_ (MarkC.d y) _) ?_;rintro _ dN ⟨rfl,aq⟩;replace a7:=a7.ext aq;replace aa:=aa.ext aq;replace ag:=ag.ext aq;refine jG ?_;refine jX rfl<|jC (actor_ d _) ?_;rintro _ dO ⟨rfl,ar⟩;replace a7:=a7.ext ar;replace aa:=aa.ext ar;replace ag:=ag.ext ar;refine jG ?_;refine jQ ?_ (hx:=by exact fun _ hg=>(x_eqA (by kernel_rfl) rfl rfl (eq_ActorC (DotC.a (MarkC.d y)) (DotC.a d))));refine jP ?_ (hx:=by exact fun _=>(x_andT rfl rfl rfl));refine jG ?_;replace a0:=(((a0.ext ao).ext ap).ext aq).ext ar;replace a6:=(((a6.ext ao).ext ap).ext aq).ext ar;replace a9:=(((a9.ext ao).ext ap).ext aq).ext ar;replace K0:=(((K0.ext ao).ext ap).ext aq).ext ar;refine jF ?_ ?_
     ·intro hc71
      refine jG ?_;refine jV (x_sub rfl rfl (by omega) (by omega)) ?_;refine jG2 ?_;obtain⟨dP,cp,y2,hy2,bK,cq⟩:=a9.sl.el (i:=(((((mgX (sortD (ms.map MarkC.d)) i)).length:Nat):Int)-1).toNat) (by first|omega|(simp only[List.length_set];omega));refine jV (x_idxZ Tryz.underlying24 ty112 rfl rfl bK (by omega) (by first|omega|(simp only[List.length_set];omega))) ?_;refine jV (x_fld (o':=cp+(((((mgX (sortD (ms.map MarkC.d)) i)).length:Nat):Int)-1).toNat*3+2) Tryz.underlying112 rfl ty3 rfl rfl rfl) ?_;refine jR<|St1.storeEl (v:= .int .i64 ((d).count)) (off:=2) (i:=(((((mgX (sortD (ms.map MarkC.d)) i)).length:Nat):Int)-1).toNat) (⟨y2.node,y2.life,(d).count⟩:MarkC) ty3 rfl rfl rfl (by simp[Value.cells,Value.oneCell']) a9 bK hy2 rfl (by decide) rfl ?_;intro dQ bL aJ;clear cq;replace a9:=bL;clear bL;replace a7:=a7.keep aJ aj;rw[show((mgX (sortD (ms.map MarkC.d)) i)).length=((mgX (sortD (ms.map MarkC.d)) i).set ((((((mgX (sortD (ms.map MarkC.d)) i)).length:Nat):Int)-1).toNat) (⟨y2.node,y2.life,(d).count⟩:MarkC)).length from(List.length_set ..).symm]at a7;refine jG ?_;refine jV (litI (c:=((i+1:Nat):Int)) (x_add rfl rfl (by omega) (by omega)) rfl) ?_;refine jG ?_;obtain rfl:y=y2:=Option.some.inj (hy.symm.trans hy2);have e:=(mgX_succ hd).trans ((mergeM_set (by rw[←prevN hn];exact hy) hc71).trans (congrArg (fun k_=>List.set _ k_ _) (prevN hn).symm));refine ih3 (i+1) _ _ ?_ (by omega);rw[e];replace a0:=a0.keep aJ ai;replace a6:=a6.keepO aJ (fun q_ h1 h2=>ak q_ h2 h1);replace aa:=aa.keep aJ bj;replace K0:=K0.new aJ al;refine⟨_,_,⟨rfl,rfl,rfl,rfl,rfl,rfl,trivial⟩,K0,a0,a7,a6,a9,ai,aj,ak,al,?_⟩
      ·omega
     ·intro hc71
      refine jG ?_;refine jR<|St1.buildSlice ([DotC.m d]:List MarkC) Tryz.underlying24 ty112 rfl rfl (by first|decide|(simp[Enc.size])) ?_;intro dR dS cr ct ay;clear cr;replace a9:=a9.ext ay;refine jR<|St1.append (xs:=(mgX (sortD (ms.map MarkC.d)) i)) (ys:=([DotC.m d]:List MarkC)) Tryz.underlying24 ty112 rfl rfl rfl a9 ct.sl (by first|omega|(simp only[lr];omega)) (by decide) ?_;intro b0 dT dU bk aK aL cu;replace a0:=a0.ext ay;have cv:¬own b0 a8:=aL.not ai a0.lt;replace a7:=a7.ext ay;have bM:¬own b0 ad:=aL.not aj a7.lt;replace a6:=a6.ext ay;have cw:∀q_,own b0 q_→¬own a1 q_:=aL.apart ak a6.own_lt;replace K0:=K0.ext ay;have cx:∀q_,own b0 q_→w.heap.size≤q_:=aL.ge al K0.size;clear aL;clear cu;refine jG ?_;replace a7:=a7.keep aK aj;refine jR<|jS a7 ?_;intro dV a7 aM;refine jG ?_;refine jV (litI (c:=((i+1:Nat):Int)) (x_add rfl rfl (by omega) (by omega)) rfl) ?_;refine jG ?_;have e:=(mgX_succ hd).trans (mergeM_app (by rw[←prevN hn];exact hy) hc71);refine ih3 (i+1) _ _ ?_ (by omega);rw[e];replace aa:=((aa.ext ay).keep aK bj).kp aM;replace a0:=(a0.keep aK ai).kp aM;replace a6:=(a6.keepO aK (fun q_ h1 h2=>ak q_ h2 h1)).keepO aM (noOne bi);replace K0:=(K0.new aK al).n1 aM;replace bk:=bk.keepO aM (noOne bM);refine⟨_,_,⟨rfl,rfl,rfl,rfl,rfl,rfl,trivial⟩,K0,a0,a7,a6,bk,cv,bM,cw,cx,?_⟩
      ·omega
    ·refine Run.drawS [] [0,1,2,3,4,5,6,7,8,11,2009,2010,2012,13,14] ?_
     intro dW az;refine jM Jn ?_;refine jG1 ?_;refine jP ?_ (hx:=by exact fun _=>(litF (x_gtI rfl rfl) (decide_eq_false (by omega))));refine jG ?_;refine jY ?_;refine jG ?_;refine jY ?_;refine jG ?_;refine jY ?_;refine jG ?_;refine jP ?_ (hx:=by exact fun _=>(x_and (b:=false) (e:=false) rfl rfl rfl));refine jG ?_;refine Run.condF rfl ?_;replace a7:=a7.ext az;replace aa:=aa.ext az;refine jG ?_;refine jR<|St1.buildSlice ([DotC.m d]:List MarkC) Tryz.underlying24 ty112 rfl rfl (by first|decide|(simp[Enc.size])) ?_;intro dX dY cy cz aN;clear cy;replace a9:=(a9.ext az).ext aN;refine jR<|St1.append (xs:=(mgX (sortD (ms.map MarkC.d)) i)) (ys:=([DotC.m d]:List MarkC)) Tryz.underlying24 ty112 rfl rfl rfl a9 cz.sl (by first|omega|(simp only[lr];omega)) (by decide) ?_;intro b1 dZ e0 bl b2 aO cA;replace a0:=(a0.ext az).ext aN;have cB:¬own b1 a8:=aO.not ai a0.lt;replace a7:=a7.ext aN;have bN:¬own b1 ad:=aO.not aj a7.lt;replace a6:=(a6.ext az).ext aN;have cC:∀q_,own b1 q_→¬own a1 q_:=aO.apart ak a6.own_lt;replace K0:=(K0.ext az).ext aN;have cD:∀q_,own b1 q_→w.heap.size≤q_:=aO.ge al K0.size;clear aO;clear cA;refine jG ?_;replace a7:=a7.keep b2 aj;refine jR<|jS a7 ?_;intro e1 a7 b3;refine jG ?_;refine jV (litI (c:=((i+1:Nat):Int)) (x_add rfl rfl (by omega) (by omega)) rfl) ?_;refine jG ?_;have e:=(mgX_succ hd).trans (mergeM_app0 hn);refine ih3 (i+1) _ _ ?_ (by omega);rw[e];replace a0:=(a0.keep b2 ai).kp b3;replace a6:=(a6.keepO b2 (fun q_ h1 h2=>ak q_ h2 h1)).keepO b3 (noOne bi);replace K0:=(K0.new b2 al).n1 b3;replace bl:=bl.keepO b3 (noOne bN);refine⟨_,_,⟨rfl,rfl,rfl,rfl,rfl,rfl,trivial⟩,K0,a0,a7,a6,bl,cB,bN,cC,cD,?_⟩
     ·omega
   ·intro hc51
    rw[mgX_all (show(sortD (ms.map MarkC.d)).length≤i by omega)]at a9 a7;refine jG ?_;refine jR<|jC (clone_c _ _ _ _ (ht.ext K0) (by omega)) ?_;rintro _ e2 ⟨au,bO,rfl,ab,aA,aP⟩;have bP:=notNew aA a0.lt;have bm:=notNew aA a7.lt;have bQ:=apartNew aA a6.own_lt;have bn:=apartNew aA a9.own_lt;have bR:=geTr K0.size aA;clear aA;refine jG ?_;refine jR<|jC (sortDots ab hD (by first|omega|(simp only[List.length_map];omega))) ?_;rintro _ e3 ⟨rfl,bS,aQ⟩;replace ab:=bS;clear bS;rw[show(ds).length=(sortD ds).length from(sortD_len _).symm];refine jG ?_;refine jR<|jC (compactD_ _ _ _ _ ab (by rw[sortD_len];omega)) ?_;rintro _ cE ⟨rfl,bT,aR⟩;replace ab:=bT;clear bT;have hU:=uniq_may hD;have hul:(uniq (sortD ds)).length≤ds.length:=by have:=uniq_le (sortD ds);rw[sortD_len]at this;exact this
    refine jG ?_;replace a0:=((a0.ext aP).keep aQ bP).keep aR bP;replace a7:=((a7.ext aP).keep aQ bm).keep aR bm;replace a6:=((a6.ext aP).keepO aQ (fun q_ h1 h2=>bQ q_ h2 h1)).keepO aR (fun q_ h1 h2=>bQ q_ h2 h1);replace a9:=((a9.ext aP).keepO aQ (fun q_ h1 h2=>bn q_ h2 h1)).keepO aR (fun q_ h1 h2=>bn q_ h2 h1);replace K0:=((K0.ext aP).new aQ bR).new aR bR;refine Run.loop (ι:=Nat) (fun i ρ' w'=>∃a4:Option Addr,∃c4:Nat,∃a5:Option Addr,∃c5:Nat,Holds ρ' [(4,jp a8),(11,jp ad),(93,.slice (au) ((uniq (sortD ds)).length) (bO)),(94,.int .i64 ((((uniq (sortD ds)).length:Nat):Int))),(95,.int .i64 (((i:Nat):Int)))]∧Ext w w'∧(Blk w' a8 [.slice (none) (0) (0),.slice (none) (0) (0)] 27)∧(Blk w' ad [.slice (a4) (((gwX (marksOf (sortD (ms.map MarkC.d)),[]) (uniq (sortD ds)) i).1).length) (c4),.slice (a5) (((gwX (marksOf (sortD (ms.map MarkC.d)),[]) (uniq (sortD ds)) i).2).length) (c5)] 27)∧(OwnSl w' 87 (a1) (c1) (sortD (ms.map MarkC.d)))∧(OwnSl w' 87 (au) (bO) (uniq (sortD ds)))∧(OwnSl w' 112 a4 c4 ((gwX (marksOf (sortD (ms.map MarkC.d)),[]) (uniq (sortD ds)) i).1))∧(OwnSl w' 87 a5 c5 ((gwX (marksOf (sortD (ms.map MarkC.d)),[]) (uniq (sortD ds)) i).2))∧(¬own a4 a8)∧(¬own a4 ad)∧(∀q_,own a4 q_→¬own a1 q_)∧(∀q_,own a4 q_→¬own au q_)∧(∀q_,own a4 q_→¬own a5 q_)∧(∀q_,own a4 q_→w.heap.size≤q_)∧(¬own a5 a8)∧(¬own a5 ad)∧(∀q_,own a5 q_→¬own a1 q_)∧(∀q_,own a5 q_→¬own au q_)∧(∀q_,own a5 q_→w.heap.size≤q_)∧(i≤(uniq (sortD ds)).length)∧(GwI (gwX (marksOf (sortD (ms.map MarkC.d)),[]) (uniq (sortD ds)) i) (ms.length+i))) (fun i=>(uniq (sortD ds)).length-i) 0 ?_ ?_
    ·rw[gwX_zero]
     have cF:=OwnSl.nil (α:=DotC) cE 87;refine⟨_,_,_,_,⟨rfl,rfl,rfl,rfl,rfl,trivial⟩,K0,a0,a7,a6,ab,a9,cF,ai,aj,ak,(fun q_ h1 h2=>bn q_ h2 h1),(fun q_ h1 h2=>(fun q_ h1 _=>own_none q_ h1) q_ h2 h1),al,(own_none a8),(own_none ad),(fun q_ h1 _=>own_none q_ h1),(fun q_ h1 _=>own_none q_ h1),(fun q_ h1=>absurd h1 (own_none q_)),?_,?_⟩
     ·omega
     ·exact marks_gw hM
    clear a0 a7 a6 a9 ab;clear K0;rintro i e4 e5 ⟨a4,c4,a5,c5,bU,K0,a0,a7,a6,ab,ae,af,bo,cG,cH,cI,bV,bW,bp,cJ,cK,cL,bX,hi,hG⟩ ih4;obtain⟨ρ₀,rfl⟩:=bU.ex;clear bU;refine jG ?_;refine jF ?_ ?_
    ·intro hc96
     obtain⟨e6,e7,d,hd,e8,cM⟩:=ab.sl.eo i;refine jG ?_;refine jR<|jA ?_;intro e9 ea ah bY av;have eb:=ltLe a0.lt ah;have ec:=ltLe a7.lt ah;have ed:=ltLe cM.lt ah;have cN:=ltNo a6.own_lt ah;have cO:=ltNo ab.own_lt ah;have cP:=ltNo ae.own_lt ah;have cQ:=ltNo af.own_lt ah;have:=Nat.le_trans K0.size ah;clear ah;refine jR<|jS bY ?_;intro ee bY aw;replace a7:=(a7.ext av).kp aw;refine jG ?_;replace ae:=(ae.ext av).keepO aw (noOne cP);replace af:=(af.ext av).keepO aw (noOne cQ);refine jR<|jC (grown_ _ _ _ _ _ _ d _ ae af bV hG.hs hG.hm (hU d (mem_of_at hd)) (by have:=hG.hl;omega) (by have:=hG.hl;omega)) ?_;rintro _ ef ⟨aS,eg,aT,eh,rfl,bq,bs,cR,aB,aC,aU⟩;have bt:¬(fun q_=>own a4 q_∨own a5 q_) a8:=fun x_=>((fun q_ h_=>h_) _ x_).elim bo (fun y_=>bp y_);have bu:¬(fun q_=>own a4 q_∨own a5 q_) ad:=fun x_=>((fun q_ h_=>h_) _ x_).elim cG (fun y_=>cJ y_);have bv:∀q_,(fun q_=>own a4 q_∨own a5 q_) q_→¬own a1 q_:=fun q_ x_ z_=>((fun q_ h_=>h_) _ x_).elim (fun y_=>cH q_ y_ z_) (fun y_=>(fun y_=>cK q_ y_ z_) y_);have bw:∀q_,(fun q_=>own a4 q_∨own a5 q_) q_→¬own au q_:=fun q_ x_ z_=>((fun q_ h_=>h_) _ x_).elim (fun y_=>cI q_ y_ z_) (fun y_=>(fun y_=>cL q_ y_ z_) y_);have bx:∀q_,(fun q_=>own a4 q_∨own a5 q_) q_→w.heap.size≤q_:=fun q_ x_=>((fun q_ h_=>h_) _ x_).elim (fun y_=>bW q_ y_) (fun y_=>(fun y_=>bX q_ y_) y_);replace a0:=(a0.ext av).kp aw;have cS:¬own aS a8:=aB.not bt a0.lt;have bZ:¬own aS ad:=aB.not bu a7.lt;replace a6:=(a6.ext av).keepO aw (noOne cN);have cT:∀q_,own aS q_→¬own a1 q_:=aB.apart bv a6.own_lt;replace ab:=(ab.ext av).keepO aw (noOne cO);have cU:∀q_,own aS q_→¬own au q_:=aB.apart bw ab.own_lt;replace K0:=(K0.ext av).n1 aw;have cV:∀q_,own aS q_→w.heap.size≤q_:=aB.ge bx K0.size;have cW:¬own aT a8:=aC.not bt a0.lt;have c0:¬own aT ad:=aC.not bu a7.lt;have cX:∀q_,own aT q_→¬own a1 q_:=aC.apart bv a6.own_lt;have cY:∀q_,own aT q_→¬own au q_:=aC.apart bw ab.own_lt;have cZ:∀q_,own aT q_→w.heap.size≤q_:=aC.ge bx K0.size;clear aB aC;replace a7:=a7.keep aU bu;refine jR<|jS a7 ?_;intro ei a7 aD;refine jG ?_;refine jV (litI (c:=((i+1:Nat):Int)) (x_add rfl rfl (by omega) (by omega)) rfl) ?_;refine jG ?_;have e:=gwX_succ (c:=(marksOf (sortD (ms.map MarkC.d)),[])) hd;refine ih4 (i+1) _ _ ?_ (by omega);rw[e];replace a0:=(a0.keep aU bt).kp aD;replace a6:=(a6.keepO aU (fun q_ h1 h2=>bv q_ h2 h1)).keepO aD (noOne bi);replace ab:=(ab.keepO aU (fun q_ h1 h2=>bw q_ h2 h1)).keepO aD (noOne bm);replace K0:=(K0.new aU bx).n1 aD;replace bq:=bq.keepO aD (noOne bZ);replace bs:=bs.keepO aD (noOne c0);refine⟨_,_,_,_,⟨rfl,rfl,rfl,rfl,rfl,trivial⟩,K0,a0,a7,a6,ab,bq,bs,cS,bZ,cT,cU,cR,cV,cW,c0,cX,cY,cZ,?_,?_⟩
     ·omega
     ·exact hG.step (hU d (mem_of_at hd))
    ·intro hc96
     rw[gw_norm (show(uniq (sortD ds)).length≤i by omega)]at ae af a7;refine jG ?_;refine jV (x_or rfl rfl rfl) ?_;refine jG ?_;refine jF ?_ ?_
     ·intro hc112
      refine jG ?_;refine jV (x_build (cells:=#[.slice (none) (0) (0),.slice (none) (0) (0)]) (by kernel_rfl)) ?_;refine jR<|jS a0 ?_;intro ej a0 b4;refine jG ?_;refine Run.retCT (x:= .int .i64 (4)) (cs:=#[.slice (none) (0) (0),.slice (none) (0) (0)]) Tryz.func165 rfl ty27 rfl rfl a0.cl rfl ?_;rw[(normE_eq hM hD).1 (by omega)];replace a7:=a7.kp b4;replace ae:=ae.keepO b4 (noOne bo);replace af:=af.keepO b4 (noOne bp);replace K0:=K0.n1 b4;exact⟨_,rfl,none,0,none,0,rfl,OwnSl.nil _ _,OwnSl.nil _ _,fun _ h_=>absurd h_ (own_none _),fun _ h_=>absurd h_ (own_none _),fun _ h_=>absurd h_ (own_none _),K0⟩
     ·intro hc112
      refine jG ?_;refine jR<|jS a0 ?_;intro ek a0 bz;refine jG ?_;refine Run.retCT (x:= .int .i64 (0)) (cs:=#[.slice (a4) (((normX ms ds).1).length) (c4),.slice (a5) (((normX ms ds).2).length) (c5)]) Tryz.func165 rfl ty27 rfl rfl a0.cl rfl ?_;rw[(normE_eq hM hD).2 (by omega)];replace ae:=ae.keepO bz (noOne bo);replace af:=af.keepO bz (noOne bp);replace K0:=K0.n1 bz;exact⟨_,rfl,a4,c4,a5,c5,rfl,ae,af,bV,bW,bX,K0⟩
end Go.Proofs.YtocgdeefgohdhaaGreat
