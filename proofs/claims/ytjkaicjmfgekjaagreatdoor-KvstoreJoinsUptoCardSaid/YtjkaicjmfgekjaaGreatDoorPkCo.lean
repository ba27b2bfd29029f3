/-
  Co
-/
import Derived.Test.YtjkaicjmfgekjaaGreatDoorRows
import Derived.Test.YtjkaicjmfgekjaaGreatDoorPkCl
import Derived.Test.YtjkaicjmfgekjaaGreatDoorPkRound
import Derived.RangeFuncRecord
import Derived.WalkKit
import Derived.TacticsIn
import Derived.BigFrameIn
import Derived.OwnWalkIn
import Derived.TacticsInMore
import Derived.Test.YtjkaicjmfgekjaaGreatDoorPkI
set_option linter.all false
set_option maxRecDepth 100000
set_option maxHeartbeats 4000000
namespace Go.Proofs.YtjkaicjmfgekjaaGreatDoor
open Go.Proofs.Tryz
attribute [local irreducible] RD RS Av RL RA RT CJ Aj
section
open Go.RowKit
def rfBody :Code→Code
 | .seq a b=>match rfBody a with| .skip=>rfBody b|c=>c
 | .block _ c=>rfBody c
 | .rangeFunc _ _ _ b=>b
 |_=> .skip
noncomputable def manyBody :Code:=rfBody (Tryz.f81.body.getD .skip)
noncomputable def DD (fn:FuncId)(D:Nat)(tmps:Array Value)(st:LoopState)(pend:Option Code):Loop:=
 {state:=st,pending:=pend,fn,tmps,params:=#[6,7],assign:= .skip,body:=manyBody,defers:=D}
def Cp (sv x y:Value)(B Bs:Nat):Array Value:=#[sv,undef,.int .i64 0,jp B,sv,.func (.func 203) #[] #[jp Bs],x,y,undef,undef,undef]
structure CR (w:World)(fn:FuncId)(l B D:Nat)(sv:Value)(Bs n:Nat):Prop where
 c:AA w B [.int .i64 (n:Int)] 3
 L:w.heap[l]? =some (.loop (DD fn D (Cp sv undef undef B Bs) .ready none))
 K:w.heap[D]? =some (.deferred (some []))
 ap:B≠l∧D≠l∧D≠B
def D8 (l B D:Nat):Nat→Prop:=fun q=>q=B∨q=l∨q=D
theorem CR.own_lt {w:World}{fn:FuncId}{l B D:Nat}{sv:Value}{Bs n:Nat}(h:CR w fn l B D sv Bs n):∀q,D8 l B D q→q<w.heap.size:=by
 rintro q (rfl|rfl|rfl)
 ·exact h.c.lt
 ·exact(Array.getElem?_eq_some_iff.1 h.L).1
 ·exact(Array.getElem?_eq_some_iff.1 h.K).1
theorem CR.keepO {w w':World}{S:Nat→Prop}{fn:FuncId}{l B D:Nat}{sv:Value}{Bs n:Nat}(h:CR w fn l B D sv Bs n)(K:Ah S w w')(hp:∀q,D8 l B D q→¬S q):CR w' fn l B D sv Bs n:=
 ⟨h.c.keep K (hp _ (.inl rfl)),(K.block l (h.own_lt l (.inr (.inl rfl))) (hp _ (.inr (.inl rfl)))).trans h.L,(K.block D (h.own_lt D (.inr (.inr rfl))) (hp _ (.inr (.inr rfl)))).trans h.K,h.ap⟩
theorem CR.ext {w w':World}{fn:FuncId}{l B D:Nat}{sv:Value}{Bs n:Nat}(h:CR w fn l B D sv Bs n)(K:Aq w w'):CR w' fn l B D sv Bs n:=h.keepO K fun _ _ e=>e
theorem Hd (w:World)(l:Nat)(o:Obj):Ah (one l) w (w.putObj l o):=⟨rfl,rfl,rfl,by simp,fun k _ hk=>World.putObj_heap_other hk⟩
theorem NQ (w:World)(b o:Nat)(v:Value):Ah (one b) w (w.setCell ⟨b,o,none⟩ v):=
 ⟨rfl,rfl,rfl,by simp[World.setCell],fun k _ hn=>by simp only[World.setCell,Array.getElem?_modify];rw[if_neg (fun e=>hn e.symm)]⟩
theorem CR.yield {w:World}{fn:FuncId}{l B D:Nat}{sv:Value}{Bs n:Nat}(h:CR w fn l B D sv Bs n)(x y:Value):
  (Instr.yield l #[x,y]).run prog w= .ok (.round l fn (Cp sv x y B Bs) .skip manyBody) w:=by
 simpa[DD,Cp]using run_yield (P:=prog) (args:=#[x,y]) h.L rfl
theorem Kz {W:World}{fn:FuncId}{l B D:Nat}{sv:Value}{Bs n:Nat}(h:CR W fn l B D sv Bs n)(hn:n≤4294967296)(x y:Value):
  RoundIn Fence.wide 0 prog l fn (Cp sv x y B Bs) .skip manyBody W fun e W'=>e= .returned (.bool true)∧CR W' fn l B D sv Bs (n+1)∧Ah (D8 l B D) W W':=by
 refine roundIn_of_wpIn trivial ?_
 obtain⟨hBl,hDl,hDB⟩:=h.ap
 have hbr:=run_beginRound (P:=prog) h.L rfl
 obtain⟨W2,hW2⟩:∃W2,W.putObj l (.loop {DD fn D (Cp sv undef undef B Bs) .ready none with state:= .busy})=W2:=⟨_,rfl⟩
 have hl:l<W.heap.size:=h.own_lt l (.inr (.inl rfl))
 have hK0:Ah (one l) W W2:=hW2▸Hd W l _
 rw[hW2]at hbr
 have hb2:=h.c.keep hK0 hBl
 have hc2:W2.cell? ⟨B,0,none⟩=some (.int .i64 (n:Int)):=hb2.cl.head
 have hf2:W2.frozen? ⟨B,0,none⟩=false:=by unfold AA at hb2;simp[World.frozen?,hb2]
 have hD2:W2.heap[D]? =some (.deferred (some [])):=by rw[←hW2];exact(World.putObj_heap_other hDl).trans h.K
 have hL2:W2.heap[l]? =some (.loop {DD fn D (Cp sv undef undef B Bs) .ready none with state:= .busy}):=by rw[←hW2];exact World.putObj_heap_same hl
 clear hW2
 simp only[Cp]
 gi_wp2_with (rw[Oper.semAt_eq _ _ _ (fun c h=>by cases h)];go_simp;try go_bits)
 show Code.wpIn _ _ _ manyBody _ _ _
 simp only[manyBody,rfBody,Tryz.f81,Option.getD_some]
 gi_wp2_with (rw[Oper.semAt_eq _ _ _ (fun c h=>by cases h)];go_simp;try go_bits)
 have hK3:=NQ W2 B 0 (.int .i64 ((n:Int)+1))
 have hb3:AA (W2.setCell ⟨B,0,none⟩ (.int .i64 ((n:Int)+1))) B [.int .i64 ((n:Int)+1)] 3:=by
  unfold AA at hb2⊢
  simp[World.setCell,Array.getElem?_modify,hb2]
 have hL3:=(hK3.block l (Array.getElem?_eq_some_iff.1 hL2).1 (fun e=>hBl e.symm)).trans hL2
 have hD3:=(hK3.block D (Array.getElem?_eq_some_iff.1 hD2).1 (fun e=>hDB e)).trans hD2
 generalize W2.setCell ⟨B,0,none⟩ (.int .i64 ((n:Int)+1))=W3 at*
 have hl3:l<W3.heap.size:=(Array.getElem?_eq_some_iff.1 hL3).1
 have hK4:=Hd W3 l (.loop (DD fn D (Cp sv undef undef B Bs) .ready none))
 exact⟨_,_,run_endRound none hL3,rfl,⟨hb3.keep hK4 hBl,World.putObj_heap_same hl3,(World.putObj_heap_other hDl).trans hD3,h.ap⟩,
  (((hK0.mono (S':=D8 l B D) fun _ _ e=> .inr (.inl e)).trans hK3 fun _ _ e=> .inl e).trans hK4 fun _ _ e=> .inr (.inl e))⟩
end
theorem R9 {es:List Ag}{k:Nat}{x y:Ag}(h:∀j z,j<k→es[j]? =some z→z.item=x.item)(hy:es[k]? =some y)(e:y.item=x.item):∀j z,j<k+1→es[j]? =some z→z.item=x.item:=fun j z hj hz=>by
 by_cases e2:j=k
 ·subst e2;rw[hy]at hz;cases hz;exact e
 ·exact h j z Zo hz
theorem KC {es:List Ag}{k:Nat}{x:Ag}(hx:es[0]? =some x)(h:∀j z,j<k→es[j]? =some z→z.item=x.item)(h1:1≤k)(h2:k≤es.length)(h3:∀y,es[k]? =some y→y.item≠x.item):itemsN es=1+itemsN (es.drop k):=by
 cases es with
 |nil=>cases hx
 |cons z t=>cases hx;exact itemsN_run k x t h h1 (by simpa using h2) h3
theorem NR {es:List Ag}(h:es.length=0):itemsN es=0:=by rw[List.eq_nil_of_length_eq_zero h];rfl
theorem TR {es:List Ag}{x:Ag}(hx:es[0]? =some x):∀j z,j<1→es[j]? =some z→z.item=x.item:=fun j z hj hz=>by
 have:j=0:=by omega
 subst this;rw[hx]at hz;cases hz;rfl
attribute [local irreducible] AE FC CC BS BL B2 B0 Du
attribute [local irreducible] DQ D5 itemsN CQ A0 Bj B4 Gr A6 Bw
attribute [local irreducible] X
theorem TS (fn:FuncId)(l B D Bs:Nat)(sv:Value)(c:Nat)(a:Option Addr)(es:List Ag)(cp:Nat)(w:World)(hb:AA w Bs [.slice a es.length cp] 27)(hM:CR w fn l B D sv Bs c)(hse:As w a es)(hap:¬D8 l B D Bs)(hd:∀q_,a=some q_→es≠ []→¬(fun q_=>q_=Bs∨D8 l B D q_) q_.block)(hcp:es.length≤cp)(hl:c+es.length≤4294967296):
  Calls prog 203 #[.func (.yield l) #[] #[],jp Bs] w (AS (fun v w'=>v= .tuple #[]∧CR w' fn l B D sv Bs (c+itemsN es)∧Ah (fun q_=>q_=Bs∨D8 l B D q_) w w')):=by
 have hile:=itemsN_le es;refine Ae (n:=38) func203 rfl rfl rfl ?_;refine jG ?_;refine Aj.loop (ι:=Nat) (fun q ρ' w'=>∃a':Option Addr,∃c':Nat,∃n:Nat,Holds ρ' [(0,.func (.yield l) #[] #[]),(1,jp Bs)]∧Ah (fun q_=>q_=Bs∨D8 l B D q_) w w'∧(AA w' Bs [.slice a' ((es.drop q).length) c'] 27)∧(CR w' fn l B D sv Bs n)∧(¬D8 l B D Bs)∧(∀q_,D8 l B D q_→q_<w.heap.size→(fun q_=>q_=Bs∨D8 l B D q_) q_)∧(q≤es.length)∧(As w a' (es.drop q))∧(∀q_,a'=some q_→es.drop q≠ []→¬(fun q_=>q_=Bs∨D8 l B D q_) q_.block)∧((es.drop q).length≤c')∧(n+itemsN (es.drop q)=c+itemsN es)) (fun q=>es.length-q) 0 ?_ ?_
 ·rw[List.drop_zero]
  refine⟨a,cp,c,⟨rfl,rfl,trivial⟩,(Ah.refl _ w),hb,hM,hap,(fun q_ h _=> .inr h),?_,?_,?_,?_,?_⟩
  ·omega
  ·exact hse
  ·exact hd
  ·exact hcp
  ·rfl
 clear hb hM;rintro q ar au ⟨a',c',n,aj,K0,hb,a0,a3,a4,hq,hr,hd',hc',hn⟩ ih1;obtain⟨ρ₀,rfl⟩:=aj.ex;clear aj;refine jG ?_;refine jF ?_ ?_
 ·intro hc6
  obtain⟨x,hx⟩:∃x,(es.drop q)[0]? =some x:=⟨_,List.getElem?_eq_getElem Zo⟩;have hdl2:=List.length_drop (i:=q) (l:=es);refine jG ?_;refine Aj.loop (ι:=Nat) (fun k ρ' w'=>Holds ρ' [(0,.func (.yield l) #[] #[]),(1,jp Bs),(3,.int .i64 ((k:Nat):Int)),(4,.slice a' ((es.drop q).length) c'),(5,.int .i64 (((es.drop q).length:Nat):Int)),(6,.bool (decide (0<(((es.drop q).length:Nat):Int))))]∧Ah (fun q_=>q_=Bs∨D8 l B D q_) w w'∧(AA w' Bs [.slice a' ((es.drop q).length) c'] 27)∧(CR w' fn l B D sv Bs n)∧(1≤k∧k≤(es.drop q).length)∧(∀j z,j<k→(es.drop q)[j]? =some z→z.item=x.item)) (fun k=>(es.drop q).length-k) 1 ?_ ?_
  ·refine⟨⟨rfl,rfl,rfl,rfl,rfl,rfl,trivial⟩,K0,hb,a0,?_,?_⟩
   ·omega
   ·exact TR hx
  clear hb a0;clear K0;rintro k av aw ⟨ak,K0,hb,a0,hk,hrun⟩ ih2;obtain⟨ρ₀,rfl⟩:=ak.ex;clear ak;refine Ds ?_;by_cases hB:k<(es.drop q).length
  ·obtain⟨ax,ay,y,hy,al,a6⟩:=hr.eo k
   have hc_15_lt:=a6.lt;obtain⟨az,aA,x1,hx1,am,a7⟩:=hr.eo 0;have hc_21_lt:=a7.lt;refine Aj.drawR ?_;intro aB a5;replace hb:=hb.ext a5;refine FJ ?_;refine Ex ?_;refine jD (Cq (FG rfl rfl) (decide_eq_true Zo)) ?_;refine FJ ?_;refine Ex ?_;refine jE ?_ (hx:=by exact fun hg=>(AI underlying27 ty76 rfl rfl al Zl));refine Ex ?_;replace a6:=(a6.keep K0 (hd' _ al (Gv hy))).ext a5;refine jE ?_ (hx:=by exact fun hg=>(Ey ty9 rfl rfl (a6.field (i:=0) rfl)));refine Ex ?_;refine jE ?_ (hx:=by exact fun hg=>(AI underlying27 ty76 rfl rfl am Zl));refine Ex ?_;replace a7:=(a7.keep K0 (hd' _ am (Gv hx1))).ext a5;refine jE ?_ (hx:=by exact fun hg=>(Ey ty9 rfl rfl (a7.field (i:=0) rfl)));refine jE ?_ (hx:=by exact fun hg=>(N7 rfl rfl));refine jD (Bv rfl rfl rfl) ?_;refine jG ?_;replace a0:=a0.ext a5;replace K0:=K0.ext a5;refine jF ?_ ?_
   ·intro hc22
    refine jG ?_;refine jV (At (c:=((k+1:Nat):Int)) (An rfl rfl Zo Zo) rfl) ?_;refine jG ?_;refine ih2 (k+1) _ _ ?_ Zo;refine⟨⟨rfl,rfl,rfl,rfl,rfl,rfl,trivial⟩,K0,hb,a0,?_,?_⟩
    ·omega
    ·exact R9 hrun hy (by rw[hx]at hx1;cases hx1;exact hc22)
   ·intro hc22
    refine jG ?_;obtain⟨ac,a8,x2,hx2,ad,a1⟩:=hr.eo 0;have hc_29_lt:=a1.lt;refine Aj.drawI [] (m:=10) Zk rfl ?_;intro aC a9;refine⟨fun w'=>AA w' Bs [.slice a' ((es.drop q).length) c'] 27∧Cl w' ac (a8+0*6) (cellsOf x2)∧True,?_⟩;replace a1:=(a1.keep K0 (hd' _ ad (Gv hx2))).ext a9;replace hb:=hb.ext a9;refine Gf.take (v:= .func (.yield l) #[] #[]) 0 rfl Zk ⟨hb,a1,trivial⟩ (fun _ _=>(Dv (v:= .func (.yield l) #[] #[]) rfl)) ?_;refine Gf.take (v:= .slice a' ((es.drop q).length) c') 1 rfl Zk ⟨hb,a1,trivial⟩ (by rintro _ ⟨hb,a1,-⟩;exact(Ey ty27 rfl rfl (hb.cl.field (i:=0) rfl))) ?_;refine Gf.take (v:= .pointer (some ⟨ac,a8+0*6,none⟩)) 2 rfl Zk ⟨hb,a1,trivial⟩ (fun _ _=>(AI underlying27 ty76 rfl rfl ad Zl)) ?_;refine Gf.take (v:= .pointer (some ⟨ac,a8+0*6+0,none⟩)) 3 rfl Zk ⟨hb,a1,trivial⟩ (fun _ _=>(D7 (o':=a8+0*6+0) underlying76 rfl ty9 rfl rfl rfl)) ?_;refine Gf.take (v:= .string ((x2).item)) 4 rfl Zk ⟨hb,a1,trivial⟩ (by rintro _ ⟨hb,a1,-⟩;exact(Ey ty9 rfl rfl (a1.field (i:=0) rfl))) ?_;refine Gf.take (v:= .slice a' ((es.drop q).length) c') 5 rfl Zk ⟨hb,a1,trivial⟩ (by rintro _ ⟨hb,a1,-⟩;exact(Ey ty27 rfl rfl (hb.cl.field (i:=0) rfl))) ?_;refine Gf.take (v:= .int .i64 ((k:Nat):Int)) 6 rfl Zk ⟨hb,a1,trivial⟩ (fun _ _=>(C8 rfl)) ?_;refine Gf.take (v:= .slice a' (((es.drop q).take k).length) c') 7 rfl Zk ⟨hb,a1,trivial⟩ (fun _ _=>(Gl (m':=((es.drop q).take k).length) (BI underlying27 ty76 rfl rfl Zo) Zt)) ?_;replace a0:=a0.ext a9;refine Gf.yield 8 (g:= .tmp 25) (vals:=[.string ((x2).item),.slice a' (((es.drop q).take k).length) c']) rfl Zk rfl rfl (a0.yield _ _) (Kz a0 Zo _ _) ?_;rintro _ aD ⟨rfl,an,ae⟩;refine⟨_,rfl,?_⟩;replace K0:=K0.ext a9;replace K0:=K0.trans ae (fun x hlt hx=>a4 x hx hlt);replace a0:=an;clear an;replace hb:=hb.keep ae a3;replace a1:=a1.keep ae (fun h=>hd' _ ad (Gv hx2) (a4 _ h hc_29_lt));refine⟨.inr ⟨hb,a1,trivial⟩,?_⟩;refine Gf.take (v:= .bool false) 9 rfl Zk ⟨hb,a1,trivial⟩ (fun _ _=>(Bo (b:=true) rfl)) ?_;refine Gf.done Zk ?_;refine Aj.condF rfl ?_;refine jG ?_;refine jV (CL (xs:=es.drop q) underlying27 ty76 rfl rfl Zo) ?_;refine jR<|jS hb ?_;intro aE hb ao;replace K0:=K0.tf ao (.inl rfl);refine jG ?_;have hit:=KC hx hrun hk.1 hk.2 (fun z hz e=>hc22 (by rw[hy]at hz;cases hz;rw[hx]at hx1;cases hx1;exact e));have hdl:=List.length_drop (i:=k) (l:=es.drop q);refine ih1 (q+k) _ _ ?_ Zo;rw[←List.drop_drop];replace a0:=a0.keepO ao (Ab a3);refine⟨(GN a' c' k 6),(c'-k),(n+1),⟨rfl,rfl,trivial⟩,K0,hb,a0,a3,a4,?_,?_,?_,?_,?_⟩
    ·omega
    ·exact hr.from k c' hc'
    ·exact fun q_ hq_ hne_=>Ob (Q:=fun b_=>es.drop q≠ []→¬(fun q_=>q_=Bs∨D8 l B D q_) b_) hd' q_ hq_ (fun e_=>hne_ (by rw[e_];exact List.drop_nil))
    ·omega
    ·omega
  ·refine Aj.drawR ?_
   intro aF af;replace hb:=hb.ext af;refine FJ ?_;refine Ex ?_;refine jD (CW (FG rfl rfl) (decide_eq_false Zo)) ?_;refine jG ?_;refine jD (AJ (b:=false) (e:=false) rfl rfl rfl) ?_;refine jG ?_;refine Aj.condF rfl ?_;refine jG ?_;obtain⟨ag,aa,x2,hx2,ah,a2⟩:=hr.eo 0;have hc_44_lt:=a2.lt;replace K0:=K0.ext af;refine Aj.drawI [] (m:=10) Zk rfl ?_;intro aG ab;refine⟨fun w'=>AA w' Bs [.slice a' ((es.drop q).length) c'] 27∧Cl w' ag (aa+0*6) (cellsOf x2)∧True,?_⟩;replace a2:=(a2.keep K0 (hd' _ ah (Gv hx2))).ext ab;replace hb:=hb.ext ab;refine Gf.take (v:= .func (.yield l) #[] #[]) 0 rfl Zk ⟨hb,a2,trivial⟩ (fun _ _=>(Dv (v:= .func (.yield l) #[] #[]) rfl)) ?_;refine Gf.take (v:= .slice a' ((es.drop q).length) c') 1 rfl Zk ⟨hb,a2,trivial⟩ (by rintro _ ⟨hb,a2,-⟩;exact(Ey ty27 rfl rfl (hb.cl.field (i:=0) rfl))) ?_;refine Gf.take (v:= .pointer (some ⟨ag,aa+0*6,none⟩)) 2 rfl Zk ⟨hb,a2,trivial⟩ (fun _ _=>(AI underlying27 ty76 rfl rfl ah Zl)) ?_;refine Gf.take (v:= .pointer (some ⟨ag,aa+0*6+0,none⟩)) 3 rfl Zk ⟨hb,a2,trivial⟩ (fun _ _=>(D7 (o':=aa+0*6+0) underlying76 rfl ty9 rfl rfl rfl)) ?_;refine Gf.take (v:= .string ((x2).item)) 4 rfl Zk ⟨hb,a2,trivial⟩ (by rintro _ ⟨hb,a2,-⟩;exact(Ey ty9 rfl rfl (a2.field (i:=0) rfl))) ?_;refine Gf.take (v:= .slice a' ((es.drop q).length) c') 5 rfl Zk ⟨hb,a2,trivial⟩ (by rintro _ ⟨hb,a2,-⟩;exact(Ey ty27 rfl rfl (hb.cl.field (i:=0) rfl))) ?_;refine Gf.take (v:= .int .i64 ((k:Nat):Int)) 6 rfl Zk ⟨hb,a2,trivial⟩ (fun _ _=>(C8 rfl)) ?_;refine Gf.take (v:= .slice a' (((es.drop q).take k).length) c') 7 rfl Zk ⟨hb,a2,trivial⟩ (fun _ _=>(Gl (m':=((es.drop q).take k).length) (BI underlying27 ty76 rfl rfl Zo) Zt)) ?_;replace a0:=(a0.ext af).ext ab;refine Gf.yield 8 (g:= .tmp 25) (vals:=[.string ((x2).item),.slice a' (((es.drop q).take k).length) c']) rfl Zk rfl rfl (a0.yield _ _) (Kz a0 Zo _ _) ?_;rintro _ aH ⟨rfl,ap,ai⟩;refine⟨_,rfl,?_⟩;replace K0:=K0.ext ab;replace K0:=K0.trans ai (fun x hlt hx=>a4 x hx hlt);replace a0:=ap;clear ap;replace hb:=hb.keep ai a3;replace a2:=a2.keep ai (fun h=>hd' _ ah (Gv hx2) (a4 _ h hc_44_lt));refine⟨.inr ⟨hb,a2,trivial⟩,?_⟩;refine Gf.take (v:= .bool false) 9 rfl Zk ⟨hb,a2,trivial⟩ (fun _ _=>(Bo (b:=true) rfl)) ?_;refine Gf.done Zk ?_;refine Aj.condF rfl ?_;refine jG ?_;refine jV (CL (xs:=es.drop q) underlying27 ty76 rfl rfl Zo) ?_;refine jR<|jS hb ?_;intro aI hb aq;replace K0:=K0.tf aq (.inl rfl);refine jG ?_;have hit:=KC hx hrun hk.1 hk.2 (fun z hz=>absurd (List.getElem?_eq_some_iff.1 hz).1 Zo);have hdl:=List.length_drop (i:=k) (l:=es.drop q);refine ih1 (q+k) _ _ ?_ Zo;rw[←List.drop_drop];replace a0:=a0.keepO aq (Ab a3);refine⟨(GN a' c' k 6),(c'-k),(n+1),⟨rfl,rfl,trivial⟩,K0,hb,a0,a3,a4,?_,?_,?_,?_,?_⟩
   ·omega
   ·exact hr.from k c' hc'
   ·exact fun q_ hq_ hne_=>Ob (Q:=fun b_=>es.drop q≠ []→¬(fun q_=>q_=Bs∨D8 l B D q_) b_) hd' q_ hq_ (fun e_=>hne_ (by rw[e_];exact List.drop_nil))
   ·omega
   ·omega
 ·intro hc6
  refine jG ?_;refine Aj.fin0 func203 rfl ?_;rw[NR Zo]at hn;exact⟨_,rfl,rfl,hn▸a0,K0⟩
theorem Vg (a:Option Addr)(n c:Nat)(w:World):
  Calls prog 146 #[.slice a n c] w (AS (fun v w'=>∃b,v= .func (.func 203) #[] #[jp b]∧AA w' b [.slice a n c] 27∧w.heap.size≤b∧Aq w w')):=by
 refine Ae (n:=4) func146 rfl rfl rfl ?_;refine jG ?_;refine jR<|jB ?_;intro a0 a4 a1 a2 a3;have:w.heap.size≤a0:=a1;clear a1;have K0:=(a3:Aq w _);refine jV (BU (v:= .nilFunc) rfl) ?_;refine jG ?_;refine jV (IC (a:=[]) (c:=[jp a0]) rfl rfl) ?_;refine jG ?_;refine jJ func146 ?_;exact⟨_,rfl,_,rfl,a2,Zo,K0⟩
section
open Go.RowKit
theorem Sa (a:Option Addr)(es:List Ag)(cp:Nat)(w:World)(hse:As w a es)(hcp:es.length≤cp)(hl:es.length≤4294967295):
  Calls prog 81 #[.slice a es.length cp] w (AS fun v w'=>v= .int .i64 ((itemsN es:Nat):Int)∧Aq w w'):=by
 refine(callsIn_wide (n:=0)).1 ?_
 refine callsIn_of_wp_marks func81 rfl trivial ?_ rfl
 simp only[Tryz.ntmps81,List.size_toArray,List.length_cons,List.length_nil,Nat.reduceAdd,Nat.reduceSub,Array.replicate_succ,Array.replicate_zero,List.push_toArray,List.append_toArray,List.nil_append,List.cons_append]
 gi_wp2
 refine⟨trivial,rfl,(callsIn_wide.2 (Vg a es.length cp _)).mono ?_⟩
 rintro e W0 ⟨v,rfl,Bs,rfl,hbs,hge,K0⟩
 gi_wp2
 refine wpIn_rangeFunc ?_
 intro fn hfn
 have hKw:Aq w (w.alloc (.cells #[.int .i64 0] 3)):=Aq.push w _
 have hB0:AA (w.alloc (.cells #[.int .i64 0] 3)) w.heap.size [.int .i64 0] 3:=GK w _ 3
 have hsz:w.heap.size+1≤Bs:=by simpa using hge
 have hlt:=hbs.lt
 have hB1:=hB0.ext K0
 have hKW0:Aq w W0:=hKw.ext K0
 generalize w.alloc (.cells #[.int .i64 0] 3)=Wa at*
 obtain⟨W1,hW1⟩:∃W1,(W0.alloc (.deferred (some []))).alloc (.loop (DD fn W0.heap.size (Cp (.slice a es.length cp) undef undef w.heap.size Bs) .ready none))=W1:=⟨_,rfl⟩
 have hK1:Aq W0 W1:=hW1▸(Aq.push W0 _).ext (Aq.push _ _)
 have hL1:W1.heap[W0.heap.size+1]? =some (.loop (DD fn W0.heap.size (Cp (.slice a es.length cp) undef undef w.heap.size Bs) .ready none)):=by
  rw[←hW1];have:=World.alloc_heap_new (W0.alloc (.deferred (some []))) (.loop (DD fn W0.heap.size (Cp (.slice a es.length cp) undef undef w.heap.size Bs) .ready none));rwa[World.size_alloc]at this
 have hD1:W1.heap[W0.heap.size]? =some (.deferred (some [])):=by
  rw[←hW1];exact(Below.heap_alloc _ _ _ Zs).trans (World.alloc_heap_new W0 _)
 have hM:CR W1 fn (W0.heap.size+1) w.heap.size W0.heap.size (.slice a es.length cp) Bs 0:=⟨hB1.ext hK1,hL1,hD1,by omega,by omega,by omega⟩
 have hKW1:Aq w W1:=hKW0.ext hK1
 have hnw:∀q,(q=Bs∨D8 (W0.heap.size+1) w.heap.size W0.heap.size q)→w.heap.size≤q:=by
  rintro q (rfl|rfl|rfl|rfl)<;>omega
 refine⟨W0.heap.size+1,[{target:= .collected W0.heap.size,args:=#[]}],W1,{target:= .fn (.func 203) #[jp Bs],args:=#[.func (.yield (W0.heap.size+1)) #[] #[]]},W1,203,
  #[.func (.yield (W0.heap.size+1)) #[] #[],jp Bs],W1,?_,?_,fun _ _=>trivial,?_,fun h=>absurd h (by simp[Fence.wide]),?_⟩
 ·rw[←hW1];exact run_enterLoop_outer _ _ _ _ _
 ·simp[resolve,go_sem]
 ·simp[invoke,go_sem]
 ·refine(callsIn_wide.2 (TS fn (W0.heap.size+1) w.heap.size W0.heap.size Bs (.slice a es.length cp) 0 a es cp W1 (hbs.ext hK1) hM (hse.ext hKW1) (by rintro(e|e|e)<;>omega)
   (fun q hq hne hs=>absurd (show q.block<w.heap.size from by obtain⟨b,o,rfl,h⟩:=hse.resolve_left hne;cases hq;exact h.lt) (Nat.not_lt.2 (hnw _ hs))) hcp Zo)).mono ?_
  rintro e W2 ⟨v,rfl,rfl,h2,K2⟩
  have hend:=run_endLoop (P:=prog) h2.L (by simp[DD])
  have hK3:=Hd W2 (W0.heap.size+1) (.loop {DD fn W0.heap.size (Cp (.slice a es.length cp) undef undef w.heap.size Bs) .ready none with state:= .exhausted})
  generalize W2.putObj (W0.heap.size+1) (.loop {DD fn W0.heap.size (Cp (.slice a es.length cp) undef undef w.heap.size Bs) .ready none with state:= .exhausted})=W3 at*
  have hb3:=h2.c.keep hK3 (fun e=>by omega)
  have hc3:W3.cell? ⟨w.heap.size,0,none⟩=some (.int .i64 ((0+itemsN es:Nat):Int)):=hb3.cl.head
  have hD3:W3.heap[W0.heap.size]? =some (.deferred (some [])):=(hK3.block _ (h2.own_lt _ (.inr (.inr rfl))) Zs).trans h2.K
  refine⟨none,W3,hend,?_⟩
  simp only[Nat.zero_add]at hc3
  gi_wp2
  refine⟨by simp,.inl ⟨_,_,rfl,run_takeDeferred hD3,?_⟩⟩
  refine⟨_,results_tmp rfl _ _ _,_,rfl,rfl,?_⟩
  exact((hKW1.new K2 fun x hx=>hnw x hx).new hK3 fun x hx=>by subst hx;omega).new (Hd W3 W0.heap.size _) fun x hx=>by subst hx;omega
end
end Go.Proofs.YtjkaicjmfgekjaaGreatDoor
