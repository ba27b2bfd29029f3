/-
  Co, Cp
-/
import Derived.Test.YtjkaicjmfgekjaaGreatDoorPcCk
import Derived.Test.YtjkaicjmfgekjaaGreatDoorPcRound
import Derived.RangeFuncRecord
import Derived.WalkKit
import Derived.TacticsIn
import Derived.BigFrameIn
import Derived.OwnWalkIn
import Derived.TacticsInMore
set_option linter.all false
set_option maxRecDepth 100000
set_option maxHeartbeats 4000000
namespace Go.Proofs.YtjkaicjmfgekjaaGreatDoor
open Go.Proofs.Tryz
attribute [local irreducible] RD RS AB RL RA RT CB Ai
section
section
open Go.RowKit
def rfBody :Code->Code
 | .seq a b=>match rfBody a with| .skip=>rfBody b|c=>c
 | .block _ c=>rfBody c
 | .rangeFunc _ _ _ b=>b
 |_=> .skip
noncomputable def manyBody :Code:=rfBody (Tryz.f81.body.getD .skip)
noncomputable def EA (fn:FuncId)(D:Nat)(tmps:Array Value)(st:LoopState)(pend:Option Code):Loop:=
 {state:=st,pending:=pend,fn,tmps,params:=#[6,7],assign:= .skip,body:=manyBody,defers:=D}
def Dc (sv x y:Value)(B Bs:Nat):Array Value:=#[sv,undef,.int .i64 0,jp B,sv,.func (.func 203) #[] #[jp Bs],x,y,undef,undef,undef]
structure DE (w:World)(fn:FuncId)(l B D:Nat)(sv:Value)(Bs n:Nat):Prop where
 c:AC w B [.int .i64 (n:Int)] 3
 L:w.heap[l]? =some (.loop (EA fn D (Dc sv undef undef B Bs) .ready none))
 K:w.heap[D]? =some (.deferred (some []))
 ap:B≠l/\D≠l/\D≠B
def E8 (l B D:Nat):Nat->Prop:=λq=>q=B\/q=l\/q=D
def DE.oL {w:World}{fn:FuncId}{l B D:Nat}{sv:Value}{Bs n:Nat}(h:DE w fn l B D sv Bs n):∀q,E8 l B D q->q<w.heap.size:=by
 rintro q (rfl|rfl|rfl)
 ·exact h.c.lt
 ·exact(Array.getElem?_eq_some_iff.1 h.L).1
 exact(Array.getElem?_eq_some_iff.1 h.K).1
def DE.kO {w w':World}{S:Nat->Prop}{fn:FuncId}{l B D:Nat}{sv:Value}{Bs n:Nat}(h:DE w fn l B D sv Bs n)(K:Ae S w w')(hp:∀q,E8 l B D q->¬S q):DE w' fn l B D sv Bs n:=
 ⟨h.c.keep K (hp _ (.inl rfl)),(K.block l (h.oL l (.inr (.inl rfl))) (hp _ (.inr (.inl rfl)))).trans h.L,(K.block D (h.oL D (.inr (.inr rfl))) (hp _ (.inr (.inr rfl)))).trans h.K,h.ap⟩
def DE.ext {w w':World}{fn:FuncId}{l B D:Nat}{sv:Value}{Bs n:Nat}(h:DE w fn l B D sv Bs n)(K:As w w'):DE w' fn l B D sv Bs n:=h.kO K λ_ _ e=>e
def E3 (w:World)(l:Nat)(o:Obj):Ae (one l) w (w.putObj l o):=⟨rfl,rfl,rfl,by simp,λk _ hk=>World.putObj_heap_other hk⟩
def QE (w:World)(b o:Nat)(v:Value):Ae (one b) w (w.setCell ⟨b,o,none⟩ v):=
 ⟨rfl,rfl,rfl,by simp[World.setCell],λk _ hn=>by simp only[World.setCell,Abd];rw[if_neg (λe=>hn e.symm)]⟩
def DE.yield {w:World}{fn:FuncId}{l B D:Nat}{sv:Value}{Bs n:Nat}(h:DE w fn l B D sv Bs n)(x y:Value):
  (Instr.yield l #[x,y]).run prog w= .ok (.round l fn (Dc sv x y B Bs) .skip manyBody) w:=by
 simpa[EA,Dc]using run_yield (P:=prog) (args:=#[x,y]) h.L rfl
def MS {W:World}{fn:FuncId}{l B D:Nat}{sv:Value}{Bs n:Nat}(h:DE W fn l B D sv Bs n)(hn:n<=4294967296)(x y:Value):
  RoundIn Fence.wide 0 prog l fn (Dc sv x y B Bs) .skip manyBody W λe W'=>e= .returned (.bool true)/\DE W' fn l B D sv Bs (n+1)/\Ae (E8 l B D) W W':=by
 refine roundIn_of_wpIn trivial ?_;obtain⟨hBl,hDl,hDB⟩:=h.ap;have hbr:=run_beginRound (P:=prog) h.L rfl;obtain⟨W2,hW2⟩:∃W2,W.putObj l (.loop {EA fn D (Dc sv undef undef B Bs) .ready none with state:= .busy})=W2:=⟨_,rfl⟩
 have hl:l<W.heap.size:=h.oL l (.inr (.inl rfl));have hK0:Ae (one l) W W2:=hW2▸E3 W l _;rw[hW2]at hbr;have hb2:=h.c.keep hK0 hBl;have hc2:W2.cell? ⟨B,0,none⟩=some (.int .i64 (n:Int)):=hb2.cl.head;have hf2:W2.frozen? ⟨B,0,none⟩=false:=by unfold AC at hb2;simp[World.frozen?,hb2]
 have hD2:W2.heap[D]? =some (.deferred (some [])):=by rw[<-hW2];exact(World.putObj_heap_other hDl).trans h.K
 have hL2:W2.heap[l]? =some (.loop {EA fn D (Dc sv undef undef B Bs) .ready none with state:= .busy}):=by rw[<-hW2];exact World.putObj_heap_same hl
 clear hW2;simp only[Dc];gi_wp2_with (rw[Oper.semAt_eq _ _ _ (λc h=>by cases h)];go_simp;try go_bits)
 show Code.wpIn _ _ _ manyBody _ _ _
 simp only[manyBody,rfBody,Tryz.f81,AbE];gi_wp2_with (rw[Oper.semAt_eq _ _ _ (λc h=>by cases h)];go_simp;try go_bits)
 have hK3:=QE W2 B 0 (.int .i64 ((n:Int)+1));have hb3:AC (W2.setCell ⟨B,0,none⟩ (.int .i64 ((n:Int)+1))) B [.int .i64 ((n:Int)+1)] 3:=by
  unfold AC at hb2⊢;simp[World.setCell,Abd,hb2]
 have hL3:=(hK3.block l (Array.getElem?_eq_some_iff.1 hL2).1 (λe=>hBl e.symm)).trans hL2;have hD3:=(hK3.block D (Array.getElem?_eq_some_iff.1 hD2).1 (λe=>hDB e)).trans hD2;generalize W2.setCell ⟨B,0,none⟩ (.int .i64 ((n:Int)+1))=W3 at*;have hl3:l<W3.heap.size:=(Array.getElem?_eq_some_iff.1 hL3).1;have hK4:=E3 W3 l (.loop (EA fn D (Dc sv undef undef B Bs) .ready none));exact⟨_,_,run_endRound none hL3,rfl,⟨hb3.keep hK4 hBl,World.putObj_heap_same hl3,(World.putObj_heap_other hDl).trans hD3,h.ap⟩,
  (((hK0.mono (S':=E8 l B D) λ_ _ e=> .inr (.inl e)).trans hK3 λ_ _ e=> .inl e).trans hK4 λ_ _ e=> .inr (.inl e))⟩
end
def Vz {es:List Aj}{k:Nat}{x y:Aj}(h:∀j z,j<k->es[j]? =some z->z.item=x.item)(hy:es[k]? =some y)(e:y.item=x.item):∀j z,j<k+1->es[j]? =some z->z.item=x.item:=λj z hj hz=>by
 by_cases e2:j=k
 ·subst e2;rw[hy]at hz;cases hz;exact e
 exact h j z Zo hz
def MT {es:List Aj}{k:Nat}{x:Aj}(hx:es[0]? =some x)(h:∀j z,j<k->es[j]? =some z->z.item=x.item)(h1:1<=k)(h2:k<=es.length)(h3:∀y,es[k]? =some y->y.item≠x.item):itemsN es=1+itemsN (es.drop k):=by
 cases es with
 |nil=>cases hx
 |cons z t=>cases hx;exact itemsN_run k x t h h1 (by simpa using h2) h3
def QF {es:List Aj}(h:es.length=0):itemsN es=0:=by rw[AaM h];rfl
def Xz {es:List Aj}{x:Aj}(hx:es[0]? =some x):∀j z,j<1->es[j]? =some z->z.item=x.item:=λj z hj hz=>by
 have:j=0:=by omega
 subst this;rw[hx]at hz;cases hz;rfl
attribute [local irreducible] AD DP Cx BI By Ca B6 DJ Cf itemsN BZ AQ Bl BL Gr AK A2 X
def XA (fn:FuncId)(l B D Bs:Nat)(sv:Value)(c:Nat)(a:Option Addr)(es:List Aj)(cp:Nat)(w:World)(hb:AC w Bs [.slice a es.length cp] 27)(hM:DE w fn l B D sv Bs c)(hse:Ax w a es)(hap:¬E8 l B D Bs)(hd:∀q_,a=some q_->es≠ []->¬(λq_=>q_=Bs\/E8 l B D q_) q_.block)(hcp:es.length<=cp)(hl:c+es.length<=4294967296):
  Calls prog 203 #[.func (.yield l) #[] #[],jp Bs] w (AU (λv w'=>v= .tuple #[]/\DE w' fn l B D sv Bs (c+itemsN es)/\Ae (λq_=>q_=Bs\/E8 l B D q_) w w')):=by
 have hile:=itemsN_le es;refine kD (n:=38) func203 ?_;refine Ai.loop (ι:=Nat) (λq ρ' w'=>∃a':Option Addr,∃c':Nat,∃n:Nat,Holds ρ' [(0,.func (.yield l) #[] #[]),(1,jp Bs)]/\Ae (λq_=>q_=Bs\/E8 l B D q_) w w'/\(AC w' Bs [.slice a' ((es.drop q).length) c'] 27)/\(DE w' fn l B D sv Bs n)/\(¬E8 l B D Bs)/\(∀q_,E8 l B D q_->q_<w.heap.size->(λq_=>q_=Bs\/E8 l B D q_) q_)/\(q<=es.length)/\(Ax w a' (es.drop q))/\(∀q_,a'=some q_->es.drop q≠ []->¬(λq_=>q_=Bs\/E8 l B D q_) q_.block)/\((es.drop q).length<=c')/\(n+itemsN (es.drop q)=c+itemsN es)) (λq=>es.length-q) 0 ?_ ?_
 ·rw[List.drop_zero];refine⟨a,cp,c,⟨rfl,rfl,trivial⟩,(Ae.refl _ w),hb,hM,hap,(λq_ h _=> .inr h),?_,?_,?_,?_,?_⟩
  ·omega
  ·exact hse
  ·exact hd
  ·exact hcp
  rfl
 clear hb hM;rintro q ar au ⟨a',c',n,aj,K0,hb,a0,a3,a4,hq,hr,hd',hc',hn⟩ ih1;obtain⟨ρ₀,rfl⟩:=aj.ex;clear aj;refine kK ?_ ?_
 ·intro hc6;obtain⟨x,hx⟩:∃x,(es.drop q)[0]? =some x:=⟨_,List.getElem?_eq_getElem Zo⟩;have hdl2:=List.length_drop (i:=q) (l:=es);refine jG ?_;refine Ai.loop (ι:=Nat) (λk ρ' w'=>Holds ρ' [(0,.func (.yield l) #[] #[]),(1,jp Bs),(3,.int .i64 ((k:Nat):Int)),(4,.slice a' ((es.drop q).length) c'),(5,.int .i64 (((es.drop q).length:Nat):Int)),(6,.bool (decide (0<(((es.drop q).length:Nat):Int))))]/\Ae (λq_=>q_=Bs\/E8 l B D q_) w w'/\(AC w' Bs [.slice a' ((es.drop q).length) c'] 27)/\(DE w' fn l B D sv Bs n)/\(1<=k/\k<=(es.drop q).length)/\(∀j z,j<k->(es.drop q)[j]? =some z->z.item=x.item)) (λk=>(es.drop q).length-k) 1 ?_ ?_
  ·refine⟨⟨rfl,rfl,rfl,rfl,rfl,rfl,trivial⟩,K0,hb,a0,?_,?_⟩
   ·omega
   exact Xz hx
  clear hb a0;clear K0;rintro k av aw ⟨ak,K0,hb,a0,hk,hrun⟩ ih2;obtain⟨ρ₀,rfl⟩:=ak.ex;clear ak;refine Et ?_;by_cases hB:k<(es.drop q).length
  ·obtain⟨ax,ay,y,hy,al,a6⟩:=hr.eo k;have hc_15_lt:=a6.lt;obtain⟨az,aA,x1,hx1,am,a7⟩:=hr.eo 0;have hc_21_lt:=a7.lt;refine Ai.drawR ?_;intro aB a5;replace hb:=hb.ext a5;refine ET ?_;refine FU ?_;refine jD (DR (FZ rfl rfl) (decide_eq_true Zo)) ?_;refine ET ?_;refine FU ?_;refine jE ?_ (hx:=by exact λhg=>(AY underlying27 ty76 rfl rfl al Zl));refine FU ?_;replace a6:=(a6.keep K0 (hd' _ al (HR hy))).ext a5;refine jE ?_ (hx:=by exact λhg=>(HM ty9 rfl rfl (a6.field (i:=0) rfl)));refine FU ?_;refine jE ?_ (hx:=by exact λhg=>(AY underlying27 ty76 rfl rfl am Zl));refine FU ?_;replace a7:=(a7.keep K0 (hd' _ am (HR hx1))).ext a5;refine jE ?_ (hx:=by exact λhg=>(HM ty9 rfl rfl (a7.field (i:=0) rfl)));refine jE ?_ (hx:=by exact λhg=>(T4 rfl rfl));refine jD (BP rfl rfl rfl) ?_;refine jG ?_;replace a0:=a0.ext a5;replace K0:=K0.ext a5;refine jF ?_ ?_
   ·intro hc22;refine jG ?_;refine kC k ?_;refine ih2 (k+1) _ _ ?_ Zo;refine⟨⟨rfl,rfl,rfl,rfl,rfl,rfl,trivial⟩,K0,hb,a0,?_,?_⟩
    ·omega
    exact Vz hrun hy (by rw[hx]at hx1;cases hx1;exact hc22)
   intro hc22;refine jG ?_;obtain⟨ac,a8,x2,hx2,ad,a1⟩:=hr.eo 0;have hc_29_lt:=a1.lt;refine Ai.drawI [] (m:=10) Zk rfl ?_;intro aC a9;refine⟨λw'=>AC w' Bs [.slice a' ((es.drop q).length) c'] 27/\Cl w' ac (a8+0*6) (cellsOf x2)/\True,?_⟩;replace a1:=(a1.keep K0 (hd' _ ad (HR hx2))).ext a9;replace hb:=hb.ext a9;refine Hv.take (v:= .func (.yield l) #[] #[]) 0 rfl Zk ⟨hb,a1,trivial⟩ (λ_ _=>(D5 (v:= .func (.yield l) #[] #[]) rfl)) ?_;refine Hv.take (v:= .slice a' ((es.drop q).length) c') 1 rfl Zk ⟨hb,a1,trivial⟩ (by rintro _ ⟨hb,a1,-⟩;exact(HM ty27 rfl rfl (hb.cl.field (i:=0) rfl))) ?_;refine Hv.take (v:= .pointer (some ⟨ac,a8+0*6,none⟩)) 2 rfl Zk ⟨hb,a1,trivial⟩ (λ_ _=>(AY underlying27 ty76 rfl rfl ad Zl)) ?_;refine Hv.take (v:= .pointer (some ⟨ac,a8+0*6+0,none⟩)) 3 rfl Zk ⟨hb,a1,trivial⟩ (λ_ _=>(JB (o':=a8+0*6+0) underlying76 rfl ty9 rfl rfl rfl)) ?_;refine Hv.take (v:= .string x2.item) 4 rfl Zk ⟨hb,a1,trivial⟩ (by rintro _ ⟨hb,a1,-⟩;exact(HM ty9 rfl rfl (a1.field (i:=0) rfl))) ?_;refine Hv.take (v:= .slice a' ((es.drop q).length) c') 5 rfl Zk ⟨hb,a1,trivial⟩ (by rintro _ ⟨hb,a1,-⟩;exact(HM ty27 rfl rfl (hb.cl.field (i:=0) rfl))) ?_;refine Hv.take (v:= .int .i64 ((k:Nat):Int)) 6 rfl Zk ⟨hb,a1,trivial⟩ (λ_ _=>(D4 rfl)) ?_;refine Hv.take (v:= .slice a' (((es.drop q).take k).length) c') 7 rfl Zk ⟨hb,a1,trivial⟩ (λ_ _=>(HH (m':=((es.drop q).take k).length) (B7 underlying27 ty76 rfl rfl Zo) Zt)) ?_;replace a0:=a0.ext a9;refine Hv.yield 8 (g:= .tmp 25) (vals:=[.string x2.item,.slice a' (((es.drop q).take k).length) c']) rfl Zk rfl rfl (a0.yield _ _) (MS a0 Zo _ _) ?_;rintro _ aD ⟨rfl,an,ae⟩;refine⟨_,rfl,?_⟩;replace K0:=K0.ext a9;replace K0:=K0.trans ae (λx hlt hx=>a4 x hx hlt);replace a0:=an;clear an;replace hb:=hb.keep ae a3;replace a1:=a1.keep ae (λh=>hd' _ ad (HR hx2) (a4 _ h hc_29_lt));refine⟨.inr ⟨hb,a1,trivial⟩,?_⟩;refine Hv.take (v:= .bool false) 9 rfl Zk ⟨hb,a1,trivial⟩ (λ_ _=>(Bp (b:=true) rfl)) ?_;refine Hv.done Zk ?_;refine kH ?_;refine jV (Dg (xs:=es.drop q) underlying27 ty76 rfl rfl Zo) ?_;refine jR<|jS hb ?_;intro aE hb ao;replace K0:=K0.tf ao (.inl rfl);refine jG ?_;have hit:=MT hx hrun hk.1 hk.2 (λz hz e=>hc22 (by rw[hy]at hz;cases hz;rw[hx]at hx1;cases hx1;exact e));have hdl:=List.length_drop (i:=k) (l:=es.drop q);refine ih1 (q+k) _ _ ?_ Zo;rw[<-Aa6];replace a0:=a0.kO ao (Aa a3);refine⟨(If a' c' k 6),(c'-k),(n+1),⟨rfl,rfl,trivial⟩,K0,hb,a0,a3,a4,?_,?_,?_,?_,?_⟩
   ·omega
   ·exact hr.from k c' hc'
   ·exact λq_ hq_ hne_=>Rc (Q:=λb_=>es.drop q≠ []->¬(λq_=>q_=Bs\/E8 l B D q_) b_) hd' q_ hq_ (λe_=>hne_ (by rw[e_];exact List.drop_nil))
   ·omega
   omega
  refine Ai.drawR ?_;intro aF af;replace hb:=hb.ext af;refine ET ?_;refine FU ?_;refine jD (DK (FZ rfl rfl) (decide_eq_false Zo)) ?_;refine jG ?_;refine jD (Bo (b:=false) (e:=false) rfl rfl rfl) ?_;refine kG ?_;obtain⟨ag,aa,x2,hx2,ah,a2⟩:=hr.eo 0;have hc_44_lt:=a2.lt;replace K0:=K0.ext af;refine Ai.drawI [] (m:=10) Zk rfl ?_;intro aG ab;refine⟨λw'=>AC w' Bs [.slice a' ((es.drop q).length) c'] 27/\Cl w' ag (aa+0*6) (cellsOf x2)/\True,?_⟩;replace a2:=(a2.keep K0 (hd' _ ah (HR hx2))).ext ab;replace hb:=hb.ext ab;refine Hv.take (v:= .func (.yield l) #[] #[]) 0 rfl Zk ⟨hb,a2,trivial⟩ (λ_ _=>(D5 (v:= .func (.yield l) #[] #[]) rfl)) ?_;refine Hv.take (v:= .slice a' ((es.drop q).length) c') 1 rfl Zk ⟨hb,a2,trivial⟩ (by rintro _ ⟨hb,a2,-⟩;exact(HM ty27 rfl rfl (hb.cl.field (i:=0) rfl))) ?_;refine Hv.take (v:= .pointer (some ⟨ag,aa+0*6,none⟩)) 2 rfl Zk ⟨hb,a2,trivial⟩ (λ_ _=>(AY underlying27 ty76 rfl rfl ah Zl)) ?_;refine Hv.take (v:= .pointer (some ⟨ag,aa+0*6+0,none⟩)) 3 rfl Zk ⟨hb,a2,trivial⟩ (λ_ _=>(JB (o':=aa+0*6+0) underlying76 rfl ty9 rfl rfl rfl)) ?_;refine Hv.take (v:= .string x2.item) 4 rfl Zk ⟨hb,a2,trivial⟩ (by rintro _ ⟨hb,a2,-⟩;exact(HM ty9 rfl rfl (a2.field (i:=0) rfl))) ?_;refine Hv.take (v:= .slice a' ((es.drop q).length) c') 5 rfl Zk ⟨hb,a2,trivial⟩ (by rintro _ ⟨hb,a2,-⟩;exact(HM ty27 rfl rfl (hb.cl.field (i:=0) rfl))) ?_;refine Hv.take (v:= .int .i64 ((k:Nat):Int)) 6 rfl Zk ⟨hb,a2,trivial⟩ (λ_ _=>(D4 rfl)) ?_;refine Hv.take (v:= .slice a' (((es.drop q).take k).length) c') 7 rfl Zk ⟨hb,a2,trivial⟩ (λ_ _=>(HH (m':=((es.drop q).take k).length) (B7 underlying27 ty76 rfl rfl Zo) Zt)) ?_;replace a0:=(a0.ext af).ext ab;refine Hv.yield 8 (g:= .tmp 25) (vals:=[.string x2.item,.slice a' (((es.drop q).take k).length) c']) rfl Zk rfl rfl (a0.yield _ _) (MS a0 Zo _ _) ?_;rintro _ aH ⟨rfl,ap,ai⟩;refine⟨_,rfl,?_⟩;replace K0:=K0.ext ab;replace K0:=K0.trans ai (λx hlt hx=>a4 x hx hlt);replace a0:=ap;clear ap;replace hb:=hb.keep ai a3;replace a2:=a2.keep ai (λh=>hd' _ ah (HR hx2) (a4 _ h hc_44_lt));refine⟨.inr ⟨hb,a2,trivial⟩,?_⟩;refine Hv.take (v:= .bool false) 9 rfl Zk ⟨hb,a2,trivial⟩ (λ_ _=>(Bp (b:=true) rfl)) ?_;refine Hv.done Zk ?_;refine kH ?_;refine jV (Dg (xs:=es.drop q) underlying27 ty76 rfl rfl Zo) ?_;refine jR<|jS hb ?_;intro aI hb aq;replace K0:=K0.tf aq (.inl rfl);refine jG ?_;have hit:=MT hx hrun hk.1 hk.2 (λz hz=>absurd (List.getElem?_eq_some_iff.1 hz).1 Zo);have hdl:=List.length_drop (i:=k) (l:=es.drop q);refine ih1 (q+k) _ _ ?_ Zo;rw[<-Aa6];replace a0:=a0.kO aq (Aa a3);refine⟨(If a' c' k 6),(c'-k),(n+1),⟨rfl,rfl,trivial⟩,K0,hb,a0,a3,a4,?_,?_,?_,?_,?_⟩
  ·omega
  ·exact hr.from k c' hc'
  ·exact λq_ hq_ hne_=>Rc (Q:=λb_=>es.drop q≠ []->¬(λq_=>q_=Bs\/E8 l B D q_) b_) hd' q_ hq_ (λe_=>hne_ (by rw[e_];exact List.drop_nil))
  ·omega
  omega
 intro hc6;refine jG ?_;refine Ai.fin0 func203 rfl ?_;rw[QF Zo]at hn;exact⟨_,rfl,rfl,hn▸a0,K0⟩
def Zy (a:Option Addr)(n c:Nat)(w:World):
  Calls prog 146 #[.slice a n c] w (AU (λv w'=>∃b,v= .func (.func 203) #[] #[jp b]/\AC w' b [.slice a n c] 27/\w.heap.size<=b/\As w w')):=by
 refine kD (n:=4) func146 ?_;refine kQ ?_;intro a0 a4 a1 a2 a3;have:w.heap.size<=a0:=a1;clear a1;have K0:=(a3:As w _);refine kE (Cy (v:= .nilFunc) rfl) ?_;refine kE (Dm (a:=[]) (c:=[jp a0]) rfl rfl) ?_;refine jJ func146 ?_;exact⟨_,rfl,_,rfl,a2,Zo,K0⟩
section
open Go.RowKit
def VA (a:Option Addr)(es:List Aj)(cp:Nat)(w:World)(hse:Ax w a es)(hcp:es.length<=cp)(hl:es.length<=4294967295):
  Calls prog 81 #[.slice a es.length cp] w (AU λv w'=>v= .int .i64 ((itemsN es:Nat):Int)/\As w w'):=by
 refine(callsIn_wide (n:=0)).1 ?_;refine callsIn_of_wp_marks func81 rfl trivial ?_ rfl;simp only[Tryz.ntmps81,Aa8,Aaj,Aas,Nat.reduceAdd,Nat.reduceSub,Array.replicate_succ,Array.replicate_zero,List.push_toArray,List.append_toArray,Aay,AaW];gi_wp2
 refine⟨trivial,rfl,(callsIn_wide.2 (Zy a es.length cp _)).mono ?_⟩;rintro e W0 ⟨v,rfl,Bs,rfl,hbs,hge,K0⟩;gi_wp2
 refine wpIn_rangeFunc ?_;intro fn hfn;have hKw:As w (w.alloc (.cells #[.int .i64 0] 3)):=As.push w _;have hB0:AC (w.alloc (.cells #[.int .i64 0] 3)) w.heap.size [.int .i64 0] 3:=F0 w _ 3;have hsz:w.heap.size+1<=Bs:=by simpa using hge
 have hlt:=hbs.lt;have hB1:=hB0.ext K0;have hKW0:As w W0:=hKw.ext K0;generalize w.alloc (.cells #[.int .i64 0] 3)=Wa at*;obtain⟨W1,hW1⟩:∃W1,(W0.alloc (.deferred (some []))).alloc (.loop (EA fn W0.heap.size (Dc (.slice a es.length cp) undef undef w.heap.size Bs) .ready none))=W1:=⟨_,rfl⟩
 have hK1:As W0 W1:=hW1▸(As.push W0 _).ext (As.push _ _);have hL1:W1.heap[W0.heap.size+1]? =some (.loop (EA fn W0.heap.size (Dc (.slice a es.length cp) undef undef w.heap.size Bs) .ready none)):=by
  rw[<-hW1];have:=World.alloc_heap_new (W0.alloc (.deferred (some []))) (.loop (EA fn W0.heap.size (Dc (.slice a es.length cp) undef undef w.heap.size Bs) .ready none));rwa[World.size_alloc]at this
 have hD1:W1.heap[W0.heap.size]? =some (.deferred (some [])):=by
  rw[<-hW1];exact(Below.heap_alloc _ _ _ Zs).trans (World.alloc_heap_new W0 _)
 have hM:DE W1 fn (W0.heap.size+1) w.heap.size W0.heap.size (.slice a es.length cp) Bs 0:=⟨hB1.ext hK1,hL1,hD1,by omega,by omega,by omega⟩
 have hKW1:As w W1:=hKW0.ext hK1;have hnw:∀q,(q=Bs\/E8 (W0.heap.size+1) w.heap.size W0.heap.size q)->w.heap.size<=q:=by
  rintro q (rfl|rfl|rfl|rfl)<;>omega
 refine⟨W0.heap.size+1,[{target:= .collected W0.heap.size,args:=#[]}],W1,{target:= .fn (.func 203) #[jp Bs],args:=#[.func (.yield (W0.heap.size+1)) #[] #[]]},W1,203,
  #[.func (.yield (W0.heap.size+1)) #[] #[],jp Bs],W1,?_,?_,λ_ _=>trivial,?_,λh=>absurd h (by simp[Fence.wide]),?_⟩
 ·rw[<-hW1];exact run_enterLoop_outer _ _ _ _ _
 ·simp[resolve,go_sem]
 ·simp[invoke,go_sem]
 refine(callsIn_wide.2 (XA fn (W0.heap.size+1) w.heap.size W0.heap.size Bs (.slice a es.length cp) 0 a es cp W1 (hbs.ext hK1) hM (hse.ext hKW1) (by rintro(e|e|e)<;>omega)
  (λq hq hne hs=>absurd (show q.block<w.heap.size from by obtain⟨b,o,rfl,h⟩:=hse.resolve_left hne;cases hq;exact h.lt) (Nat.not_lt.2 (hnw _ hs))) hcp Zo)).mono ?_
 rintro e W2 ⟨v,rfl,rfl,h2,K2⟩;have hend:=run_endLoop (P:=prog) h2.L (by simp[EA]);have hK3:=E3 W2 (W0.heap.size+1) (.loop {EA fn W0.heap.size (Dc (.slice a es.length cp) undef undef w.heap.size Bs) .ready none with state:= .exhausted});generalize W2.putObj (W0.heap.size+1) (.loop {EA fn W0.heap.size (Dc (.slice a es.length cp) undef undef w.heap.size Bs) .ready none with state:= .exhausted})=W3 at*;have hb3:=h2.c.keep hK3 (λe=>by omega);have hc3:W3.cell? ⟨w.heap.size,0,none⟩=some (.int .i64 ((0+itemsN es:Nat):Int)):=hb3.cl.head;have hD3:W3.heap[W0.heap.size]? =some (.deferred (some [])):=(hK3.block _ (h2.oL _ (.inr (.inr rfl))) Zs).trans h2.K;refine⟨none,W3,hend,?_⟩;simp only[Aaq]at hc3;gi_wp2
 refine⟨by simp,.inl ⟨_,_,rfl,run_takeDeferred hD3,?_⟩⟩;refine⟨_,results_tmp rfl _ _ _,_,rfl,rfl,?_⟩;exact((hKW1.new K2 λx hx=>hnw x hx).new hK3 λx hx=>by subst hx;omega).new (E3 W3 W0.heap.size _) λx hx=>by subst hx;omega
end
end
section
attribute [local irreducible] AD DP Cx BI By Ca B6 DJ Cf itemsN BZ AQ Bl BL Gr AK A2 X
def R1 (am:Option Addr)(ms:List Ab)(cm:Nat)(ac:Option Addr)(cl:List Ah)(cc:Nat)(ae:Option Addr)(es:List Aj)(ce:Nat)(w:World)(hcap:es.length<=ce)(hs:Ax w am ms)(ht:Ax w ac cl)(hse:Ax w ae es)(hl:ms.length<=4294967295)(hl2:cl.length<=4294967295)(hl3:es.length<=4294967295)(hb:Ez es):
  Calls prog 35 #[.agg #[.slice ae es.length ce,.slice am ms.length cm,.slice ac cl.length cc]] w (AU (λv w'=>v= .int .i64 (Bl ms cl es)/\As w w')):=by
 refine kD (n:=32) func35 ?_;refine kQ ?_;intro a1 a8 a2 a0 a6;have:w.heap.size<=a1:=a2;clear a2;have K0:=(a6:As w _);refine jG ?_;refine kS (U8 am ms cm ac cl cc _ (hs.ext K0) (ht.ext K0) Zo Zo) ?_;rintro _ a9 ⟨rfl,a3⟩;refine jG ?_;replace a0:=a0.ext a3;replace K0:=K0.ext a3;refine jF ?_ ?_
 ·intro hc5;refine kL func35 ?_;exact⟨_,rfl,by rw[Pk hc5],K0⟩
 intro hc5;have hcan:BL ms cl=true:=by simpa using hc5
 refine kK ?_ ?_
 ·intro hc10;refine kL func35 ?_;exact⟨_,rfl,by rw[MP hcan Zo],K0⟩
 intro hc10;refine jG ?_;refine Ai.loop (ι:=Nat) (λi ρ' w'=>Holds ρ' [(1,jp a1),(17,.int .i64 ((es.length:Nat):Int)),(18,.int .i64 ((i:Nat):Int))]/\As w w'/\(AC w' a1 [.slice ae es.length ce,.slice am ms.length cm,.slice ac cl.length cc] 33)/\(i<=es.length)/\(AQ ms cl es i=0)) (λi=>es.length-i) 0 ?_ ?_
 ·refine⟨⟨rfl,rfl,rfl,trivial⟩,K0,a0,?_,?_⟩
  ·omega
  exact Pl _ _ _
 clear a0;clear K0;rintro i aa ab ⟨a4,K0,a0,hi,h0⟩ ih1;obtain⟨ρ₀,rfl⟩:=a4.ex;clear a4;refine kK ?_ ?_
 ·intro hc19;obtain⟨x,hx⟩:∃x,es[i]? =some x:=⟨_,List.getElem?_eq_getElem Zo⟩;refine jG ?_;refine kS (Zu am ms cm ac cl cc ae es ce i x _ hcap (hs.ext K0) (ht.ext K0) (hse.ext K0) Zo Zo Zo hcan h0 hx (hb x (BH hx)).1) ?_;rintro _ ad ⟨rfl,a5⟩;refine jG ?_;replace a0:=a0.ext a5;replace K0:=K0.ext a5;refine jF ?_ ?_
  ·intro hc25;refine kL func35 ?_;exact⟨_,rfl,by rw[Xw hcan Zo h0 hx hc25],K0⟩
  intro hc25;refine jG ?_;refine kC i ?_;refine ih1 (i+1) _ _ ?_ Zo;refine⟨⟨rfl,rfl,rfl,trivial⟩,K0,a0,?_,?_⟩
  ·omega
  exact JQ h0 hx hc25
 intro hc19;refine jG ?_;refine kS (VA _ es _ _ (hse.ext K0) hcap Zo) ?_;rintro _ af ⟨rfl,a7⟩;refine jG ?_;replace K0:=K0.ext a7;refine jF ?_ ?_
 ·intro hc31;refine kL func35 ?_;exact⟨_,rfl,by rw[MQ hcan Zo (by rw[<-(show i=es.length by omega)];exact h0) Zo],K0⟩
 intro hc31;refine kL func35 ?_;exact⟨_,rfl,by rw[RZ hcan Zo (by rw[<-(show i=es.length by omega)];exact h0) Zo],K0⟩
end
end Go.Proofs.YtjkaicjmfgekjaaGreatDoor
