/-
  Qw
-/
import Derived.Test.YtocgdeefgohdhaaGreatRows
import Derived.Test.YtocgdeefgohdhaaGreatPqQp
import Derived.Test.YtocgdeefgohdhaaGreatPqI
set_option linter.all false
set_option maxRecDepth 100000
set_option maxHeartbeats 4000000
namespace Go.Proofs.YtocgdeefgohdhaaGreat
open Go.Proofs.Tryz
attribute [local irreducible] RD RS AD RL RA RT BH Al
noncomputable def Kg (p:Int×MV)(x:MV):Int×MV:=if p.1=0 then(if Cw p.2 x=0 then(0,Bf p.2 x)else(Cw p.2 x,nilV))else p
noncomputable def Bv (l:List MV):Int×MV:=l.foldl Kg (0,nilV)
section
variable {p :Int×MV}{x:MV}{l:List MV}{i:Nat}
theorem tog_snoc :Bv (l++[x])=Kg (Bv l) x:=by rw[Bv,List.foldl_append];rfl
theorem Kh (h:p.1=0)(h2:Cw p.2 x=0):Kg p x=(0,Bf p.2 x):=by rw[Kg,if_pos h,if_pos h2]
theorem IE (h:p.1=0)(h2:¬Cw p.2 x=0):Kg p x=(Cw p.2 x,nilV):=by rw[Kg,if_pos h,if_neg h2]
theorem Ln (h:¬p.1=0):∀l:List MV,l.foldl Kg p=p
 |[]=>rfl
 |x::l=>by rw[List.foldl_cons,Kg,if_neg h];exact Ln h l
theorem GR (h:l[i]? =some x):Bv (l.take (i+1))=Kg (Bv (l.take i)) x:=by rw[BG h,tog_snoc]
theorem Lo (h:¬(Bv (l.take i)).1=0):Bv l=Bv (l.take i):=by
 have e:Bv (l.take i++l.drop i)=Bv (l.take i):=by rw[Bv,List.foldl_append];exact Ln h _
 rwa[List.take_append_drop]at e
end
def RM.cs (Q:RM):List MV:=Q.order.map fun i=>Q.carts.getD i.toNat nilV
theorem HT {R:Rq}{i:Nat}{o:Int}{p:Mg}(h1:R.order[i]? =some o)(h2:R.carts[o.toNat]? =some p):R.pv.cs[i]? =some p.v:=by
 show(R.order.map fun i=>(R.carts.map Mg.v).getD i.toNat nilV)[i]? =_
 rw[List.getElem?_map,h1,Option.map_some,List.getD,List.getElem?_map,h2];rfl
theorem Rr {ks:List Mg}{i:Nat}{x:AX}(h:(ks.map Mg.k)[i]? =some x):∃p,ks[i]? =some p∧x=(An p.v p.s).cart:=by
 rw[List.getElem?_map,Option.map_eq_some_iff]at h
 obtain⟨p,hp,rfl⟩:=h
 exact⟨p,hp,rfl⟩
def IF (Q:RM)(c:MV)(i:Nat):Bool:=Q.there.getD i false&& !D1 (Q.carts.getD i nilV) c
def D3 (Q:RM)(c:MV)(i:Nat):List Au:=(List.range i).flatMap fun j=>if IF Q c j=true then(Q.l[j]?).toList else[]
noncomputable def F3 (Q:RM):List MV:=if Q.put=true∨Q.ok=false∨(Bv Q.cs).1≠0 then[]else(D3 Q (Bv Q.cs).2 Q.l.length).map fun t=>Ap 1 Q.self t.node 0 Q.key t.owner (Bv Q.cs).2
section
variable {Q :RM}{c:MV}{i:Nat}{t:Au}
theorem mendT_zero :D3 Q c 0=[]:=rfl
theorem Fi (h:Q.l[i]? =some t):D3 Q c (i+1)=D3 Q c i++(if IF Q c i=true then[t]else[]):=by
 unfold D3
 rw[List.range_succ,List.flatMap_append]
 simp only[List.flatMap_cons,List.flatMap_nil,List.append_nil]
 split
 ·rw[h];rfl
 ·rfl
theorem NZ (hi : i ≤ Q.l.length) : (D3 Q c i).length ≤ i := by
  induction i with
  | zero => exact Nat.le_refl _
  | succ i ih =>
    rw [Fi (List.getElem?_eq_getElem Zo), List.length_append]
    have := ih Zo
    split <;> simp <;> omega
theorem Lp {R:Rq}{b:Bool}{p:Mg}(h1:R.there[i]? =some b)(h2:R.carts[i]? =some p):IF R.pv c i=(b&& !D1 p.v c):=by
 show(R.there.getD i false&& !D1 ((R.carts.map Mg.v).getD i nilV) c)=_
 rw[List.getD,h1,List.getD,List.getElem?_map,h2];rfl
theorem FC (h:Q.put=true∨Q.ok=false∨(Bv Q.cs).1≠0):F3 Q=[]:=by rw[F3,if_pos h]
theorem Jz (h:¬(Q.put=true∨Q.ok=false∨(Bv Q.cs).1≠0)):F3 Q=(D3 Q (Bv Q.cs).2 Q.l.length).map fun t=>Ap 1 Q.self t.node 0 Q.key t.owner (Bv Q.cs).2:=by rw[F3,if_neg h]
end
theorem Ki {α:Type}{a b:List α}{i:Nat}{x:α}(h:a.take i=b.take i)(h1:a[i]? =some x)(h2:b[i]? =some x):a.take (i+1)=b.take (i+1):=by
 obtain⟨k1,e1⟩:=List.getElem?_eq_some_iff.1 h1
 obtain⟨k2,e2⟩:=List.getElem?_eq_some_iff.1 h2
 rw[List.take_succ_eq_append_getElem k1,List.take_succ_eq_append_getElem k2,h,e1,e2]
theorem Mf {α:Type}{a b:List α}{i:Nat}(h:a.take i=b.take i)(h1:a.length≤i)(h2:a.length=b.length):a=b:=by
 rwa[List.take_of_length_le h1,List.take_of_length_le Zo]at h
theorem Mh {α:Type}{a b:List α}{i:Nat}{x y:α}(h1:a[i]? =some x)(h2:b[i]? =some y)(hn:¬x=y):¬a=b:=fun e=>by
 subst e;rw[h1]at h2;exact hn (Option.some.inj h2)
theorem PV {α:Type}{a b:List α}(h:¬a.length=b.length):¬a=b:=fun e=>h (by rw[e])
theorem QU {a b:MV}(h:¬a.mrk.length=b.mrk.length∨¬a.cl.length=b.cl.length):(decide (a.mrk=b.mrk)&&decide (a.cl=b.cl))=false:=by rw[Bool.and_eq_false_iff];exact h.imp (fun h=>decide_eq_false (PV h)) (fun h=>decide_eq_false (PV h))
theorem N0 {a b:MV}(h:¬(a.ent.length:Int)=(b.ent.length:Int)∨¬a.mrk=b.mrk∨¬a.cl=b.cl):D1 a b=false:=by
 unfold D1
 rw[Bool.eq_false_iff]
 intro h2
 simp only[Bool.and_eq_true,decide_eq_true_eq]at h2
 exact h.elim (fun h=>h (by rw[h2.1.1])) (fun h=>h.elim (fun h=>h h2.1.2) (fun h=>h h2.2))
theorem N1 {a b:MV}(h:a.ent=b.ent)(h2:a.mrk=b.mrk∧a.cl=b.cl):D1 a b=true:=by
 unfold D1
 rw[decide_eq_true h,decide_eq_true h2.1,decide_eq_true h2.2];rfl
attribute [local irreducible] X
theorem Sa (x:Nat)(R:Rq)(n:Int)(w:World)(hM:D9 w x R)(hok:Hb R)(hI:Ju w R):
  Calls prog 51 #[jp x,.int .i64 n] w (AU (fun r w'=>((r= .int .i64 (-1)∧∀(j:Nat) (t:Au),R.l[j]? =some t→t.node=n→R.ans[j]? =some true)∨(∃(i:Nat) (t:Au),r= .int .i64 (i:Int)∧R.l[i]? =some t∧t.node=n∧R.ans[i]? =some false))∧As w w')):=by
 have hb:=hM.blk;have hsl:=hI.tg;have hsa:=hM.ans.sl;have hsh:=hM.there.sl;have hsc:=hM.carts.sl;have hso:=hM.order.sl;have hok0:=hok;obtain⟨hnd,hll,hal,hhl,hcl,hol,hoi,hkr,hbg⟩:=hok;have hcm:(R.carts.map Mg.k).length=R.carts.length:=List.length_map ..;refine Af (n:=33) func51 rfl rfl rfl ?_;refine jG ?_;refine Al.loop (ι:=Nat) (fun i ρ' w'=>AG ρ' [(0,jp x),(1,.int .i64 n),(10,.slice R.la R.l.length R.lc),(11,.int .i64 ((R.l.length:Nat):Int)),(12,.int .i64 ((i:Nat):Int))]∧As w w'∧(AI w' x [.int .i64 R.self,.int .i64 R.req,.int .i64 R.need,.int .i64 R.begun,.bool R.put,.int .i64 R.id,.int .i64 R.knd,.string R.key,.string R.item,.int .i64 R.qty,.int .u64 R.price,.slice R.ss.ea R.seen.ent.length R.ss.ec,.slice R.ss.ma R.seen.mrk.length R.ss.mc,.slice R.ss.ca R.seen.cl.length R.ss.cc,.slice R.cs.ea R.cart.ent.length R.cs.ec,.slice R.cs.ma R.cart.mrk.length R.cs.mc,.slice R.cs.ca R.cart.cl.length R.cs.cc,.slice R.la R.l.length R.lc,.slice R.aa R.ans.length R.ac,.slice R.ha R.there.length R.hc,.slice R.ca ((R.carts.map Mg.k).length) R.cc,.slice R.oa R.order.length R.oc,.int .i64 R.kept,.int .i64 R.refused,.bool R.full,.bool R.told,.bool R.ok,.bool R.done] 118)∧(i≤R.l.length)∧(∀(j:Nat) (t:Au),j<i→R.l[j]? =some t→t.node=n→R.ans[j]? =some true)) (fun i=>R.l.length-i) 0 ?_ ?_
 ·refine⟨⟨rfl,rfl,rfl,rfl,rfl,trivial⟩,(Ao.refl _ w),hb,?_,?_⟩
  ·omega
  ·exact fun j t hj=>absurd hj (Nat.not_lt_zero j)
 clear hb;rintro i a7 a8 ⟨a3,K0,hb,hi,hno⟩ ih1;obtain⟨ρ₀,rfl⟩:=a3.ex;clear a3;refine jG ?_;refine jF ?_ ?_
 ·intro hc13
  obtain⟨a9,ab,t,ht,ad,a0⟩:=hsl.eo i;have hc_7_lt:=a0.lt;replace a0:=a0.ext K0;refine jG ?_;refine jR<|jA ?_;intro ae af a1 a4 a5;have ag:=Aj hb.lt a1;have ah:=Aj a0.lt a1;have:=Nat.le_trans K0.size a1;clear a1;refine jG ?_;refine jR<|jS a4 ?_;intro ai a4 a6;obtain⟨aj,ak,bb,hbb,al,a2⟩:=hsa.eo i;have hc_22_lt:=a2.lt;replace K0:=(K0.ext a5).n1 a6;replace hb:=(hb.ext a5).kp a6;replace a2:=a2.ext K0;refine jG ?_;refine jV (AN rfl rfl rfl) ?_;refine jG ?_;refine jF ?_ ?_
  ·intro hc30
   refine jG ?_;refine jJ func51 ?_;exact⟨_,rfl,.inr ⟨i,t,rfl,ht,hc30.1,by rw[hbb];simpa using hc30.2⟩,K0⟩
  ·intro hc30
   refine jG ?_;refine jV (Ay (c:=((i+1:Nat):Int)) (Aq rfl rfl Zo Zo) rfl) ?_;refine jG ?_;refine ih1 (i+1) _ _ ?_ Zo;refine⟨⟨rfl,rfl,rfl,rfl,rfl,trivial⟩,K0,hb,?_,?_⟩
   ·omega
   ·exact fun j u hj hu hn=>(Nat.lt_succ_iff_lt_or_eq.1 hj).elim (fun h=>hno j u h hu hn) (fun h=>by subst h;rw[ht]at hu;cases hu;rw[hbb];simp_all)
 ·intro hc13
  refine jG ?_;refine jJ func51 ?_;exact⟨_,rfl,.inl ⟨rfl,fun j t h1 h2=>hno j t (Nat.lt_of_lt_of_le (List.getElem?_eq_some_iff.1 h1).1 Zo) h1 h2⟩,K0⟩
theorem Ni (x:Nat)(R:Rq)(w:World)(hM:D9 w x R)(hok:Hb R)(hI:Ju w R):
  Calls prog 54 #[jp x] w (AU (fun r w'=>r= .bool (!(R.ans.any fun b=> !b))∧As w w')):=by
 have hb:=hM.blk;have hsl:=hI.tg;have hsa:=hM.ans.sl;have hsh:=hM.there.sl;have hsc:=hM.carts.sl;have hso:=hM.order.sl;have hok0:=hok;obtain⟨hnd,hll,hal,hhl,hcl,hol,hoi,hkr,hbg⟩:=hok;have hcm:(R.carts.map Mg.k).length=R.carts.length:=List.length_map ..;refine Af (n:=17) func54 rfl rfl rfl ?_;refine jG ?_;refine Al.loop (ι:=Nat) (fun i ρ' w'=>AG ρ' [(8,.slice R.aa R.ans.length R.ac),(9,.int .i64 ((R.ans.length:Nat):Int)),(10,.int .i64 ((i:Nat):Int))]∧As w w'∧(AI w' x [.int .i64 R.self,.int .i64 R.req,.int .i64 R.need,.int .i64 R.begun,.bool R.put,.int .i64 R.id,.int .i64 R.knd,.string R.key,.string R.item,.int .i64 R.qty,.int .u64 R.price,.slice R.ss.ea R.seen.ent.length R.ss.ec,.slice R.ss.ma R.seen.mrk.length R.ss.mc,.slice R.ss.ca R.seen.cl.length R.ss.cc,.slice R.cs.ea R.cart.ent.length R.cs.ec,.slice R.cs.ma R.cart.mrk.length R.cs.mc,.slice R.cs.ca R.cart.cl.length R.cs.cc,.slice R.la R.l.length R.lc,.slice R.aa R.ans.length R.ac,.slice R.ha R.there.length R.hc,.slice R.ca ((R.carts.map Mg.k).length) R.cc,.slice R.oa R.order.length R.oc,.int .i64 R.kept,.int .i64 R.refused,.bool R.full,.bool R.told,.bool R.ok,.bool R.done] 118)∧(i≤R.ans.length)∧(Ep (fun b=> !b) R.ans i)) (fun i=>R.ans.length-i) 0 ?_ ?_
 ·refine⟨⟨rfl,rfl,rfl,trivial⟩,(Ao.refl _ w),hb,?_,?_⟩
  ·omega
  ·exact Ep.zero _ _
 clear hb;rintro i a2 a3 ⟨a1,K0,hb,hi,hno⟩ ih1;obtain⟨ρ₀,rfl⟩:=a1.ex;clear a1;refine jG ?_;refine jF ?_ ?_
 ·intro hc11
  obtain⟨a4,a5,b,hx,a6,a0⟩:=hsa.eo i;have hc_7_lt:=a0.lt;replace a0:=a0.ext K0;refine jG ?_;refine jF ?_ ?_
  ·intro hc15
   refine jG ?_;refine jJ func54 ?_;exact⟨_,rfl,by rw[LC hx (by simpa using hc15)];rfl,K0⟩
  ·intro hc15
   refine jG ?_;refine jV (Ay (c:=((i+1:Nat):Int)) (Aq rfl rfl Zo Zo) rfl) ?_;refine jG ?_;refine ih1 (i+1) _ _ ?_ Zo;refine⟨⟨rfl,rfl,rfl,trivial⟩,K0,hb,?_,?_⟩
   ·omega
   ·exact hno.step hx (by simpa using hc15)
 ·intro hc11
  refine jG ?_;refine jJ func54 ?_;exact⟨_,rfl,by rw[LD hno Zo];rfl,K0⟩
theorem DZ (x:Nat)(R:Rq)(S:Int)(v:MV)(s:A6)(w:World)(hb:AI w x R.cells 118):
  Calls prog 57 #[jp x,.int .i64 S,.agg #[.slice s.ea v.ent.length s.ec,.slice s.ma v.mrk.length s.mc,.slice s.ca v.cl.length s.cc]] w (AU (fun r w'=>∃a c,r= .slice a [(⟨R.id,S,(An v s).cart⟩:AM)].length c∧AI w' x [.int .i64 R.self,.int .i64 R.req,.int .i64 R.need,.int .i64 R.begun,.bool R.put,.int .i64 R.id,.int .i64 R.knd,.string R.key,.string R.item,.int .i64 R.qty,.int .u64 R.price,.slice R.ss.ea R.seen.ent.length R.ss.ec,.slice R.ss.ma R.seen.mrk.length R.ss.mc,.slice R.ss.ca R.seen.cl.length R.ss.cc,.slice R.cs.ea R.cart.ent.length R.cs.ec,.slice R.cs.ma R.cart.mrk.length R.cs.mc,.slice R.cs.ca R.cart.cl.length R.cs.cc,.slice R.la R.l.length R.lc,.slice R.aa R.ans.length R.ac,.slice R.ha R.there.length R.hc,.slice R.ca ((R.carts.map Mg.k).length) R.cc,.slice R.oa R.order.length R.oc,.int .i64 R.kept,.int .i64 R.refused,.bool R.full,.bool true,.bool (decide (S=200)),.bool R.done] 118∧Ag w' 63 a c [(⟨R.id,S,(An v s).cart⟩:AM)]∧(∀q,own a q→w.heap.size≤q)∧Ao (one x) w w')):=by
 refine Af (n:=24) func57 rfl rfl rfl ?_;refine jG ?_;refine jR<|jB ?_;intro a8 ad a1 a0 a4;have ae:=Aj hb.lt a1;have:w.heap.size≤a8:=a1;clear a1;have K0:=(a4:As w _).to (S:=(one x));refine jG ?_;replace hb:=hb.ext a4;refine jR<|jS hb ?_;intro af hb a5;replace K0:=K0.tf a5 rfl;refine jG ?_;refine jR<|jS hb ?_;intro ag hb a6;replace K0:=K0.tf a6 rfl;refine jG ?_;refine Al.drawS [] [0,1,2,3,1004,5,1006,7,2008,9] ?_;intro ah a2;replace a0:=((a0.kp a5).kp a6).ext a2;replace hb:=hb.ext a2;refine jM (jb hb (jb a0 Jn)) ?_;refine jG ?_;refine jP ?_ (hx:=by exact fun _=>(Ar (cells:=#[.int .i64 R.id,.int .i64 S,.slice s.ea v.ent.length s.ec,.slice s.ma v.mrk.length s.mc,.slice s.ca v.cl.length s.cc]) Zk));refine jU rfl<|AD.buildSlice ([(⟨R.id,S,(An v s).cart⟩:AM)]:List AM) underlying58 ty63 rfl rfl Ze ?_;intro ai aj a7 a9 a3;replace K0:=K0.ext a2;have ab:=Az K0.size (Av a7);clear a7;replace hb:=hb.ext a3;replace a0:=a0.ext a3;refine jG ?_;refine jJ func57 ?_;replace K0:=K0.ext a3;exact⟨_,rfl,_,_,rfl,hb,a9,ab,K0⟩
theorem QV (a b:MV)(s t:A6)(w:World)(hR:AE w s a)(hQ:AE w t b)(hv:Fl a):
  Calls prog 95 #[.agg #[.slice s.ma a.mrk.length s.mc,.slice s.ca a.cl.length s.cc],.agg #[.slice t.ma b.mrk.length t.mc,.slice t.ca b.cl.length t.cc]] w (AU (fun v w'=>v= .bool (decide (a.mrk=b.mrk)&&decide (a.cl=b.cl))∧As w w')):=by
 have hv0:=hv;obtain⟨hv1,hv2,hv3,hv4,hv5,hv6⟩:=hv;refine Af (n:=59) func95 rfl rfl rfl ?_;refine jG ?_;refine jR<|jB ?_;intro a4 ag a9 a0 a7;have:w.heap.size≤a4:=a9;clear a9;have K0:=(a7:As w _);refine jR<|jB ?_;intro a5 ah a8 a1 a6;have ai:=Aj a0.lt a8;have:=Nat.le_trans K0.size a8;clear a8;replace a0:=a0.ext a6;refine jG ?_;refine jV (Ba rfl rfl rfl) ?_;refine jG ?_;replace hR:=(hR.ext a7).ext a6;replace hQ:=(hQ.ext a7).ext a6;replace K0:=K0.ext a6;refine jF ?_ ?_
 ·intro hc22
  refine jG ?_;refine jJ func95 ?_;exact⟨_,rfl,by rw[QU Zo],K0⟩
 ·intro hc22
  refine jG ?_;refine Al.loop (ι:=Nat) (fun i ρ' w'=>AG ρ' [(2,jp a4),(3,jp a5),(25,.int .i64 ((a.mrk.length:Nat):Int)),(26,.int .i64 ((i:Nat):Int))]∧As w w'∧(AI w' a4 [.slice s.ma a.mrk.length s.mc,.slice s.ca a.cl.length s.cc] 27)∧(AI w' a5 [.slice t.ma b.mrk.length t.mc,.slice t.ca b.cl.length t.cc] 27)∧(AE w' s a)∧(AE w' t b)∧(i≤a.mrk.length)∧(a.mrk.take i=b.mrk.take i)) (fun i=>a.mrk.length-i) 0 ?_ ?_
  ·refine⟨⟨rfl,rfl,rfl,rfl,trivial⟩,K0,a0,a1,hR,hQ,?_,?_⟩
   ·omega
   ·rfl
  clear hR hQ a0 a1;clear K0;rintro i aj ak ⟨aa,K0,a0,a1,hR,hQ,hi,hei⟩ ih1;obtain⟨ρ₀,rfl⟩:=aa.ex;clear aa;refine jG ?_;refine jF ?_ ?_
  ·intro hc27
   refine jG ?_;obtain⟨al,am,m1,hm1,an,ab⟩:=(hR).mrk.eo i;obtain⟨ao,ap,m2,hm2,aq,ac⟩:=(hQ).mrk.eo i;refine Al.drawR ?_;intro ar a2;replace a0:=a0.ext a2;replace a1:=a1.ext a2;replace ab:=ab.ext a2;replace ac:=ac.ext a2;refine jG ?_;refine jD (Ew Zk rfl rfl (Ks m1 m2)) ?_;refine jG ?_;replace hR:=hR.ext a2;replace hQ:=hQ.ext a2;replace K0:=K0.ext a2;refine jF ?_ ?_
   ·intro hc39
    refine jG ?_;refine jJ func95 ?_;exact⟨_,rfl,by rw[decide_eq_false (Mh hm1 hm2 hc39)];rfl,K0⟩
   ·intro hc39
    refine jG ?_;refine jV (Ay (c:=((i+1:Nat):Int)) (Aq rfl rfl Zo Zo) rfl) ?_;refine jG ?_;refine ih1 (i+1) _ _ ?_ Zo;refine⟨⟨rfl,rfl,rfl,rfl,trivial⟩,K0,a0,a1,hR,hQ,?_,?_⟩
    ·omega
    ·exact Ki hei hm1 (hc39▸hm2)
  ·intro hc27
   refine jG ?_;refine Al.loop (ι:=Nat) (fun j ρ' w'=>AG ρ' [(2,jp a4),(3,jp a5),(43,.int .i64 ((a.cl.length:Nat):Int)),(44,.int .i64 ((j:Nat):Int))]∧As w w'∧(AI w' a4 [.slice s.ma a.mrk.length s.mc,.slice s.ca a.cl.length s.cc] 27)∧(AI w' a5 [.slice t.ma b.mrk.length t.mc,.slice t.ca b.cl.length t.cc] 27)∧(AE w' s a)∧(AE w' t b)∧(j≤a.cl.length)∧(a.cl.take j=b.cl.take j)) (fun j=>a.cl.length-j) 0 ?_ ?_
   ·refine⟨⟨rfl,rfl,rfl,rfl,trivial⟩,K0,a0,a1,hR,hQ,?_,?_⟩
    ·omega
    ·rfl
   clear a0 a1 hR hQ;clear K0;rintro j au av ⟨ad,K0,a0,a1,hR,hQ,hj,hej⟩ ih2;obtain⟨ρ₀,rfl⟩:=ad.ex;clear ad;refine jG ?_;refine jF ?_ ?_
   ·intro hc45
    refine jG ?_;obtain⟨aw,ax,d1,hd1,ay,ae⟩:=(hR).cl.eo j;obtain⟨az,aA,d2,hd2,aB,af⟩:=(hQ).cl.eo j;refine Al.drawR ?_;intro aC a3;replace a0:=a0.ext a3;replace a1:=a1.ext a3;replace ae:=ae.ext a3;replace af:=af.ext a3;refine jG ?_;refine jD (Ew Zk rfl rfl (CF d1 d2)) ?_;refine jG ?_;replace hR:=hR.ext a3;replace hQ:=hQ.ext a3;replace K0:=K0.ext a3;refine jF ?_ ?_
    ·intro hc57
     refine jG ?_;refine jJ func95 ?_;exact⟨_,rfl,by rw[decide_eq_false (Mh hd1 hd2 hc57),Bool.and_false],K0⟩
    ·intro hc57
     refine jG ?_;refine jV (Ay (c:=((j+1:Nat):Int)) (Aq rfl rfl Zo Zo) rfl) ?_;refine jG ?_;refine ih2 (j+1) _ _ ?_ Zo;refine⟨⟨rfl,rfl,rfl,rfl,trivial⟩,K0,a0,a1,hR,hQ,?_,?_⟩
     ·omega
     ·exact Ki hej hd1 (hc57▸hd2)
   ·intro hc45
    refine jG ?_;refine jJ func95 ?_;exact⟨_,rfl,by rw[decide_eq_true (Mf hei Zo Zo),decide_eq_true (Mf hej Zo Zo)];rfl,K0⟩
theorem QW (a b:MV)(s t:A6)(w:World)(hR:AE w s a)(hQ:AE w t b)(hv:Fl a):
  Calls prog 82 #[.agg #[.slice s.ea a.ent.length s.ec,.slice s.ma a.mrk.length s.mc,.slice s.ca a.cl.length s.cc],.agg #[.slice t.ea b.ent.length t.ec,.slice t.ma b.mrk.length t.mc,.slice t.ca b.cl.length t.cc]] w (AU (fun v w'=>v= .bool (D1 a b)∧As w w')):=by
 have hv0:=hv;obtain⟨hv1,hv2,hv3,hv4,hv5,hv6⟩:=hv;refine Af (n:=39) func82 rfl rfl rfl ?_;refine jG ?_;refine jR<|jB ?_;intro a5 ad a8 a0 a6;have:w.heap.size≤a5:=a8;clear a8;have K0:=(a6:As w _);refine jR<|jB ?_;intro a9 ae a7 a1 a4;have af:=Aj a0.lt a7;have:=Nat.le_trans K0.size a7;clear a7;replace a0:=a0.ext a4;refine jG ?_;replace hR:=(hR.ext a6).ext a4;replace hQ:=(hQ.ext a6).ext a4;refine RL.gcall (vals:=[.agg #[.slice s.ma a.mrk.length s.mc,.slice s.ca a.cl.length s.cc],.agg #[.slice t.ma b.mrk.length t.mc,.slice t.ca b.cl.length t.cc]]) (Bw rfl rfl rfl rfl) en95.h (fun hg=>(Bm (Bh hg) (Bm (Bh hg) Di))) (fun hg=>(QV a b s t _ hR hQ Za)) ?_;intro ag a3;refine jG ?_;refine jV (Ba rfl rfl rfl) ?_;refine jG ?_;replace K0:=(K0.ext a4).ext a3;replace hR:=hR.ext a3;replace hQ:=hQ.ext a3;replace a0:=a0.ext a3;replace a1:=a1.ext a3;refine jF ?_ ?_
 ·intro hc20
  refine jG ?_;refine jJ func82 ?_;exact⟨_,rfl,by rw[N0 hc20],K0⟩
 ·intro hc20
  refine jG ?_;refine Al.loop (ι:=Nat) (fun i ρ' w'=>AG ρ' [(2,jp a5),(3,jp a9),(23,.int .i64 ((a.ent.length:Nat):Int)),(24,.int .i64 ((i:Nat):Int))]∧As w w'∧(AI w' a5 [.slice s.ea a.ent.length s.ec,.slice s.ma a.mrk.length s.mc,.slice s.ca a.cl.length s.cc] 29)∧(AI w' a9 [.slice t.ea b.ent.length t.ec,.slice t.ma b.mrk.length t.mc,.slice t.ca b.cl.length t.cc] 29)∧(AE w' s a)∧(AE w' t b)∧(i≤a.ent.length)∧(a.ent.take i=b.ent.take i)) (fun i=>a.ent.length-i) 0 ?_ ?_
  ·refine⟨⟨rfl,rfl,rfl,rfl,trivial⟩,K0,a0,a1,hR,hQ,?_,?_⟩
   ·omega
   ·rfl
  clear hR hQ a0 a1;clear K0;rintro i ah ai ⟨aa,K0,a0,a1,hR,hQ,hi,hei⟩ ih1;obtain⟨ρ₀,rfl⟩:=aa.ex;clear aa;refine jG ?_;refine jF ?_ ?_
  ·intro hc25
   refine jG ?_;obtain⟨aj,ak,e1,he1,al,ab⟩:=(hR).ent.eo i;obtain⟨am,an,e2,he2,ao,ac⟩:=(hQ).ent.eo i;refine Al.drawR ?_;intro ap a2;replace a0:=a0.ext a2;replace a1:=a1.ext a2;replace ab:=ab.ext a2;replace ac:=ac.ext a2;refine jG ?_;refine jD (Ew Zk rfl rfl (Eb e1 e2)) ?_;refine jG ?_;replace hR:=hR.ext a2;replace hQ:=hQ.ext a2;replace K0:=K0.ext a2;refine jF ?_ ?_
   ·intro hc37
    refine jG ?_;refine jJ func82 ?_;exact⟨_,rfl,by unfold D1;rw[decide_eq_false (Mh he1 he2 hc37)];rfl,K0⟩
   ·intro hc37
    refine jG ?_;refine jV (Ay (c:=((i+1:Nat):Int)) (Aq rfl rfl Zo Zo) rfl) ?_;refine jG ?_;refine ih1 (i+1) _ _ ?_ Zo;refine⟨⟨rfl,rfl,rfl,rfl,trivial⟩,K0,a0,a1,hR,hQ,?_,?_⟩
    ·omega
    ·exact Ki hei he1 (hc37▸he2)
  ·intro hc25
   refine jG ?_;refine jJ func82 ?_;exact⟨_,rfl,by rw[N1 (Mf hei Zo Zo) hc20.2],K0⟩
theorem Nj (a b:MV)(s t:A6)(w:World)(hA:AE w s a)(hB:AE w t b)(hoa:AV a s)(hob:AV b t):Calls prog 94 #[.agg #[.slice s.ea a.ent.length s.ec,.slice s.ma a.mrk.length s.mc,.slice s.ca a.cl.length s.cc],.agg #[.slice t.ea b.ent.length t.ec,.slice t.ma b.mrk.length t.mc,.slice t.ca b.cl.length t.cc]] w (AU fun r w'=>∃s',r= .tuple #[.agg #[.slice s'.ea ((Bf a b).ent.length) s'.ec,.slice s'.ma ((Bf a b).mrk.length) s'.mc,.slice s'.ca ((Bf a b).cl.length) s'.cc],.int .i64 (Cw a b)]∧BF w' s' (Bf a b)∧CN s'∧(∀q,Aw s' q→w.heap.size≤q)∧As w w'):=by
 refine(R1 s.ma a.mrk s.mc s.ca a.cl s.cc s.ea a.ent s.ec t.ma b.mrk t.mc t.ca b.cl t.cc t.ea b.ent t.ec w hoa.cap hob.cap hA.mrk hA.cl hA.ent hB.mrk hB.cl hB.ent hoa.ok.mrk hoa.ok.cl hoa.ok.ent hob.ok.mrk hob.ok.cl hob.ok.ent hoa.ent hob.ent).mono ?_
 rintro e_ w_ ⟨r_,h1,ae,ce,am,cm,ac,cc,hv,he,hm,hc,a1,a2,a3,g1,g2,g3,K⟩
 refine⟨r_,h1,⟨ae,ce,am,cm,ac,cc,none,0,none,0,none,0⟩,?_,?_,⟨a1,a2,a3⟩,?_,K⟩
 ·rw[hv];unfold Bf Cw;rfl
 ·unfold Bf;exact⟨he,hm,hc⟩
 ·rintro q (h|h|h)
  ·exact g1 q h
  ·exact g2 q h
  ·exact g3 q h
theorem Rs (x:Nat)(R:Rq)(w:World)(hM:D9 w x R)(hok:Hb R)(hI:Ju w R):
  Calls prog 81 #[jp x] w (AU (fun r w'=>∃s',r= .tuple #[.agg #[.slice (((An (Bv R.pv.cs).2 s').cart).entries.a) (((An (Bv R.pv.cs).2 s').cart).entries.len) (((An (Bv R.pv.cs).2 s').cart).entries.cap),.slice ((((An (Bv R.pv.cs).2 s').cart).ctx).marks.a) ((((An (Bv R.pv.cs).2 s').cart).ctx).marks.len) ((((An (Bv R.pv.cs).2 s').cart).ctx).marks.cap),.slice ((((An (Bv R.pv.cs).2 s').cart).ctx).cloud.a) ((((An (Bv R.pv.cs).2 s').cart).ctx).cloud.len) ((((An (Bv R.pv.cs).2 s').cart).ctx).cloud.cap)],.int .i64 (Bv R.pv.cs).1]∧BF w' s' (Bv R.pv.cs).2∧CN s'∧AV (Bv R.pv.cs).2 s'∧((Bv R.pv.cs).1=0→Lx (Bv R.pv.cs).2)∧(∀q,Aw s' q→w.heap.size≤q)∧As w w')):=by
 have hb:=hM.blk;have hsl:=hI.tg;have hsa:=hM.ans.sl;have hsh:=hM.there.sl;have hsc:=hM.carts.sl;have hso:=hM.order.sl;have hok0:=hok;obtain⟨hnd,hll,hal,hhl,hcl,hol,hoi,hkr,hbg⟩:=hok;have hcm:(R.carts.map Mg.k).length=R.carts.length:=List.length_map ..;refine Af (n:=37) func81 rfl rfl rfl ?_;refine jG ?_;refine jR<|jA ?_;intro aj aU au a2 ax;have aV:=Aj hb.lt au;have:w.heap.size≤aj:=au;clear au;have K0:=(ax:As w _);refine jG ?_;refine jR<|jA ?_;intro ak aE ao a0 av;replace hb:=hb.ext ax;have aW:=Aj hb.lt ao;have aX:=Aj a2.lt ao;have:=Nat.le_trans K0.size ao;clear ao;have hA0:BF aE nilS nilV:=Fo;replace hb:=hb.ext av;refine jG ?_;replace a2:=a2.ext av;replace K0:=K0.ext av;refine Al.loop (ι:=Nat) (fun i ρ' w'=>∃acc:MV,∃sa:A6,AG ρ' [(0,jp x),(2,jp aj),(4,jp ak),(12,.slice R.oa R.order.length R.oc),(13,.int .i64 ((R.order.length:Nat):Int)),(14,.int .i64 ((i:Nat):Int))]∧As w w'∧(AI w' x [.int .i64 R.self,.int .i64 R.req,.int .i64 R.need,.int .i64 R.begun,.bool R.put,.int .i64 R.id,.int .i64 R.knd,.string R.key,.string R.item,.int .i64 R.qty,.int .u64 R.price,.slice R.ss.ea R.seen.ent.length R.ss.ec,.slice R.ss.ma R.seen.mrk.length R.ss.mc,.slice R.ss.ca R.seen.cl.length R.ss.cc,.slice R.cs.ea R.cart.ent.length R.cs.ec,.slice R.cs.ma R.cart.mrk.length R.cs.mc,.slice R.cs.ca R.cart.cl.length R.cs.cc,.slice R.la R.l.length R.lc,.slice R.aa R.ans.length R.ac,.slice R.ha R.there.length R.hc,.slice R.ca ((R.carts.map Mg.k).length) R.cc,.slice R.oa R.order.length R.oc,.int .i64 R.kept,.int .i64 R.refused,.bool R.full,.bool R.told,.bool R.ok,.bool R.done] 118)∧(AI w' aj [.slice none 0 0,.slice none 0 0,.slice none 0 0] 29)∧(AI w' ak [.slice sa.ea acc.ent.length sa.ec,.slice sa.ma acc.mrk.length sa.mc,.slice sa.ca acc.cl.length sa.cc] 29)∧(BF w' sa acc)∧(¬Aw sa x)∧(¬Aw sa aj)∧(¬Aw sa ak)∧(∀q_,Aw sa q_→w.heap.size≤q_)∧(i≤R.order.length)∧(Bv (R.pv.cs.take i)=(0,acc))∧(AV acc sa)∧(CN sa)∧(Lx acc)) (fun i=>R.order.length-i) 0 ?_ ?_
 ·refine⟨nilV,nilS,⟨rfl,rfl,rfl,rfl,rfl,rfl,trivial⟩,K0,hb,a2,a0,hA0,(nil_CS x),(nil_CS aj),(nil_CS ak),(fun q_ h1=>absurd h1 (nil_CS q_)),?_,?_,?_,?_,?_⟩
  ·omega
  ·rfl
  ·exact⟨nil_ok,fun _ h=>absurd h (by simp[nilV]),Nat.le_refl _⟩
  ·exact nil_CA
  ·exact Lx.nil
 clear hb a2 a0 hA0;clear K0;rintro i aY aZ ⟨acc,sa,ay,K0,hb,a2,a0,a3,b0,aF,b1,aG,hi,htg,hco,hca,hcx2⟩ ih1;obtain⟨ρ₀,rfl⟩:=ay.ex;clear ay;refine jG ?_;refine jF ?_ ?_
 ·intro hc15
  obtain⟨b2,b3,o,ho,b4,aw⟩:=hso.eo i;have hc_25_lt:=aw.lt;have ho2:=hoi o (List.mem_of_getElem? ho);replace aw:=aw.ext K0;refine jG ?_;obtain⟨aH,aI,cx,hcx,aJ,a1⟩:=hsc.el (i:=(o).toNat) Zl;have hc_33_lt:=a1.lt;obtain⟨p,hp,hxe⟩:=Rr hcx;have hpm:p∈R.carts:=List.mem_of_getElem? hp;refine Al.drawT [] (m:=15) Zk rfl ?_;intro b5 a9;refine⟨fun w'=>AI w' x [.int .i64 R.self,.int .i64 R.req,.int .i64 R.need,.int .i64 R.begun,.bool R.put,.int .i64 R.id,.int .i64 R.knd,.string R.key,.string R.item,.int .i64 R.qty,.int .u64 R.price,.slice R.ss.ea R.seen.ent.length R.ss.ec,.slice R.ss.ma R.seen.mrk.length R.ss.mc,.slice R.ss.ca R.seen.cl.length R.ss.cc,.slice R.cs.ea R.cart.ent.length R.cs.ec,.slice R.cs.ma R.cart.mrk.length R.cs.mc,.slice R.cs.ca R.cart.cl.length R.cs.cc,.slice R.la R.l.length R.lc,.slice R.aa R.ans.length R.ac,.slice R.ha R.there.length R.hc,.slice R.ca ((R.carts.map Mg.k).length) R.cc,.slice R.oa R.order.length R.oc,.int .i64 R.kept,.int .i64 R.refused,.bool R.full,.bool R.told,.bool R.ok,.bool R.done] 118∧AI w' ak [.slice sa.ea acc.ent.length sa.ec,.slice sa.ma acc.mrk.length sa.mc,.slice sa.ca acc.cl.length sa.cc] 29∧Cl w' aH (aI+(o).toNat*3) (cellsOf cx)∧True,?_⟩;replace a1:=(a1.ext K0).ext a9;replace hb:=hb.ext a9;replace a0:=a0.ext a9;refine RT.take 0 rfl Zk ⟨hb,a0,a1,trivial⟩ (by rintro _ ⟨hb,a0,a1,-⟩;exact(Fu ty29 rfl rfl (a0.cl.drop 0 3))) ?_;refine RT.takeP 1 rfl Zk (.inr ⟨hb,a0,a1,trivial⟩) (fun _=>(HA rfl)) ?_;refine RT.takeP 2 rfl Zk (.inr ⟨hb,a0,a1,trivial⟩) (fun _=>(E2 rfl)) ?_;refine RT.takeP 3 rfl Zk (.inr ⟨hb,a0,a1,trivial⟩) (fun _=>(CS (o':=20) underlying118 rfl ty40 rfl rfl rfl)) ?_;refine RT.take 4 rfl Zk ⟨hb,a0,a1,trivial⟩ (by rintro _ ⟨hb,a0,a1,-⟩;exact(Dl ty40 rfl rfl (hb.cl.field (i:=20) rfl))) ?_;refine RT.takeP 5 rfl Zk (.inr ⟨hb,a0,a1,trivial⟩) (fun _=>(BD rfl)) ?_;refine RT.takeP 6 rfl Zk (.inr ⟨hb,a0,a1,trivial⟩) (fun _=>(C7 underlying40 ty29 rfl rfl aJ Zo Zl)) ?_;refine RT.take (v:= .agg #[.slice p.s.ea p.v.ent.length p.s.ec,.slice p.s.ma p.v.mrk.length p.s.mc,.slice p.s.ca p.v.cl.length p.s.cc]) 7 rfl Zk ⟨hb,a0,a1,trivial⟩ (by rintro _ ⟨hb,a0,a1,-⟩;exact(Gn (v':= .agg #[.slice p.s.ea p.v.ent.length p.s.ec,.slice p.s.ma p.v.mrk.length p.s.mc,.slice p.s.ca p.v.cl.length p.s.cc]) (CD (v:= .agg #[.slice ((cx).entries.a) ((cx).entries.len) ((cx).entries.cap),.slice (((cx).ctx).marks.a) (((cx).ctx).marks.len) (((cx).ctx).marks.cap),.slice (((cx).ctx).cloud.a) (((cx).ctx).cloud.len) (((cx).ctx).cloud.cap)]) (y:=cx) ty29 rfl a1 rfl) (by rw[hxe];try rfl))) ?_;replace a2:=a2.ext a9;replace a3:=a3.ext a9;replace K0:=K0.ext a9;refine RT.fork2 8 12 Zk ?_ ?_
  ·refine BH.st rfl<|jC (Nj acc p.v sa p.s _ a3.r ((hI.carts p hpm).ext K0) hco (hI.csok p hpm)) ?_
   rintro _ b6 ⟨aK,rfl,a4,aL,al,ab⟩;have aM:=Ae al hb.lt;have az:=Ae al a2.lt;have aA:=Ae al a0.lt;have aN:=Az K0.size al;clear al;replace hb:=hb.ext ab;replace a0:=a0.ext ab;replace a1:=a1.ext ab;refine⟨.inr ⟨hb,a0,a1,trivial⟩,?_⟩;refine RT.takeP 9 rfl Zk (.inr ⟨hb,a0,a1,trivial⟩) (fun _=>(FG rfl)) ?_;refine RT.takeP 10 rfl Zk (.inr ⟨hb,a0,a1,trivial⟩) (fun _=>(A7 rfl rfl)) ?_;refine RT.takeP 11 rfl Zk (.inr ⟨hb,a0,a1,trivial⟩) (fun _=>(A7 rfl rfl)) ?_;refine RT.st 12 rfl Zk rfl<|jA ?_;intro b7 b8 a6 ap ad;have b9:=Aj hb.lt a6;replace a2:=a2.ext ab;have ba:=Aj a2.lt a6;have bb:=Aj a0.lt a6;have bc:=Aj a1.lt a6;have aO:=Ak a4.own_lt a6;replace K0:=K0.ext ab;have:=Nat.le_trans K0.size a6;clear a6;replace hb:=hb.ext ad;replace a0:=a0.ext ad;replace a1:=a1.ext ad;refine⟨.inr ⟨hb,a0,a1,trivial⟩,?_⟩;refine RT.st 13 rfl Zk rfl<|jS ap ?_;intro be ap ae;replace hb:=hb.kp ae;replace a0:=a0.kp ae;replace a1:=a1.kp ae;refine⟨.inr ⟨hb,a0,a1,trivial⟩,?_⟩;refine RT.takeP 14 rfl Zk (.inr ⟨hb,a0,a1,trivial⟩) (fun _=>(Bp rfl)) ?_;refine RT.done Zk ?_;refine jG ?_;replace a3:=a3.ext ab;replace a2:=(a2.ext ad).kp ae;replace a4:=(a4.ext ad).keepO ae (Aa aO);replace K0:=(K0.ext ad).n1 ae;refine jF ?_ ?_
   ·intro hc31
    refine jG ?_;refine jV (Ar (cells:=#[.slice none 0 0,.slice none 0 0,.slice none 0 0]) Zk) ?_;refine jG ?_;refine jR<|jS a2 ?_;intro bg a2 am;refine jG ?_;refine Al.retCT (x:= .int .i64 (Cw acc p.v)) (cs:=#[.slice none 0 0,.slice none 0 0,.slice none 0 0]) func81 rfl ty29 rfl rfl a2.cl rfl ?_;have hj:¬Cw acc p.v=0:=by simpa using hc31
    have e:=GR (HT ho hp);rw[htg,IE rfl hj]at e;have e2:=Lo (l:=R.pv.cs) (i:=i+1) (by rw[e];exact hj);rw[e]at e2;rw[e2];replace hb:=hb.kp am;replace a0:=a0.kp am;replace a4:=a4.keepO am (Aa az);replace ap:=ap.kp am;replace K0:=K0.n1 am;exact⟨_,rfl,nilS,rfl,Fo,nil_CA,⟨nil_ok,fun _ h=>absurd h (by simp[nilV]),Nat.le_refl _⟩,fun h_=>absurd h_ hj,fun q h_=>absurd h_ (nil_CS q),K0⟩
   ·intro hc31
    refine jG ?_;refine jR<|jS a0 ?_;intro bh a0 aq;refine jG ?_;refine jV (Ay (c:=((i+1:Nat):Int)) (Aq rfl rfl Zo Zo) rfl) ?_;refine jG ?_;have e:=GR (HT ho hp);rw[htg,Kh rfl (by simpa using hc31)]at e;refine ih1 (i+1) _ _ ?_ Zo;replace hb:=hb.kp aq;replace a2:=a2.kp aq;replace a4:=a4.keepO aq (Aa aA);replace K0:=K0.n1 aq;refine⟨(Bf acc p.v),aK,⟨rfl,rfl,rfl,rfl,rfl,rfl,trivial⟩,K0,hb,a2,a0,a4,aM,az,aA,aN,?_,?_,?_,?_,?_⟩
    ·omega
    ·exact e
    ·exact A9 hco.ent (hI.csok p hpm).ent a4
    ·exact aL
    ·exact Dz (by simpa using hc31)
  ·refine BH.st rfl<|jA ?_
   intro bi bj af a7 ag;have bk:=Aj hb.lt af;have bl:=Aj a2.lt af;have bm:=Aj a0.lt af;have bn:=Aj a1.lt af;have:=Nat.le_trans K0.size af;clear af;replace hb:=hb.ext ag;replace a0:=a0.ext ag;replace a1:=a1.ext ag;refine⟨.inr ⟨hb,a0,a1,trivial⟩,?_⟩;replace a3:=a3.ext ag;replace K0:=K0.ext ag;refine RT.st 8 rfl Zk rfl<|jC (Nj acc p.v sa p.s _ a3.r ((hI.carts p hpm).ext K0) hco (hI.csok p hpm)) ?_;rintro _ bo ⟨aP,rfl,a5,aQ,ah,a8⟩;have aR:=Ae ah hb.lt;replace a2:=a2.ext ag;have aB:=Ae ah a2.lt;have aC:=Ae ah a0.lt;have aS:=Ae ah a7.lt;have aT:=Az K0.size ah;clear ah;replace hb:=hb.ext a8;replace a0:=a0.ext a8;replace a1:=a1.ext a8;refine⟨.inr ⟨hb,a0,a1,trivial⟩,?_⟩;refine RT.takeP 9 rfl Zk (.inr ⟨hb,a0,a1,trivial⟩) (fun _=>(FG rfl)) ?_;refine RT.takeP 10 rfl Zk (.inr ⟨hb,a0,a1,trivial⟩) (fun _=>(A7 rfl rfl)) ?_;refine RT.takeP 11 rfl Zk (.inr ⟨hb,a0,a1,trivial⟩) (fun _=>(A7 rfl rfl)) ?_;replace a7:=a7.ext a8;refine RT.st 13 rfl Zk rfl<|jS a7 ?_;intro bp a7 ai;replace hb:=hb.kp ai;replace a0:=a0.kp ai;replace a1:=a1.kp ai;refine⟨.inr ⟨hb,a0,a1,trivial⟩,?_⟩;refine RT.takeP 14 rfl Zk (.inr ⟨hb,a0,a1,trivial⟩) (fun _=>(Bp rfl)) ?_;refine RT.done Zk ?_;refine jG ?_;replace a2:=(a2.ext a8).kp ai;replace a3:=a3.ext a8;replace K0:=(K0.ext a8).n1 ai;replace a5:=a5.keepO ai (Aa aS);refine jF ?_ ?_
   ·intro hc31
    refine jG ?_;refine jV (Ar (cells:=#[.slice none 0 0,.slice none 0 0,.slice none 0 0]) Zk) ?_;refine jG ?_;refine jR<|jS a2 ?_;intro bq a2 an;refine jG ?_;refine Al.retCT (x:= .int .i64 (Cw acc p.v)) (cs:=#[.slice none 0 0,.slice none 0 0,.slice none 0 0]) func81 rfl ty29 rfl rfl a2.cl rfl ?_;have hj:¬Cw acc p.v=0:=by simpa using hc31
    have e:=GR (HT ho hp);rw[htg,IE rfl hj]at e;have e2:=Lo (l:=R.pv.cs) (i:=i+1) (by rw[e];exact hj);rw[e]at e2;rw[e2];replace hb:=hb.kp an;replace a0:=a0.kp an;replace a7:=a7.kp an;replace a5:=a5.keepO an (Aa aB);replace K0:=K0.n1 an;exact⟨_,rfl,nilS,rfl,Fo,nil_CA,⟨nil_ok,fun _ h=>absurd h (by simp[nilV]),Nat.le_refl _⟩,fun h_=>absurd h_ hj,fun q h_=>absurd h_ (nil_CS q),K0⟩
   ·intro hc31
    refine jG ?_;refine jR<|jS a0 ?_;intro bs a0 ar;refine jG ?_;refine jV (Ay (c:=((i+1:Nat):Int)) (Aq rfl rfl Zo Zo) rfl) ?_;refine jG ?_;have e:=GR (HT ho hp);rw[htg,Kh rfl (by simpa using hc31)]at e;refine ih1 (i+1) _ _ ?_ Zo;replace hb:=hb.kp ar;replace a2:=a2.kp ar;replace a5:=a5.keepO ar (Aa aC);replace K0:=K0.n1 ar;refine⟨(Bf acc p.v),aP,⟨rfl,rfl,rfl,rfl,rfl,rfl,trivial⟩,K0,hb,a2,a0,a5,aR,aB,aC,aT,?_,?_,?_,?_,?_⟩
    ·omega
    ·exact e
    ·exact A9 hco.ent (hI.csok p hpm).ent a5
    ·exact aQ
    ·exact Dz (by simpa using hc31)
 ·intro hc15
  refine jG ?_;refine jR<|jS a2 ?_;intro bt a2 aD;refine jG ?_;refine Al.retCT (x:= .int .i64 0) (cs:=#[.slice sa.ea acc.ent.length sa.ec,.slice sa.ma acc.mrk.length sa.mc,.slice sa.ca acc.cl.length sa.cc]) func81 rfl ty29 rfl rfl a2.cl rfl ?_;rw[List.take_of_length_le (by show(R.order.map _).length≤i;rw[List.length_map];omega)]at htg;rw[htg];replace a3:=a3.keepO aD (Aa aF);replace K0:=K0.n1 aD;exact⟨_,rfl,sa,rfl,a3,hca,hco,fun _=>hcx2,aG,K0⟩
theorem Mi (x:Nat)(R:Rq)(w:World)(hM:D9 w x R)(hok:Hb R)(hI:Ju w R):
  Calls prog 55 #[jp x] w (AU (fun r w'=>∃a c ks,r= .slice a ((ks:List Mg).map Mg.c).length c∧At w' a (ks.map Mg.c)∧G9 w' ks∧ks.map Mg.v=F3 R.pv∧As w w')):=by
 have hb:=hM.blk;have hsl:=hI.tg;have hsa:=hM.ans.sl;have hsh:=hM.there.sl;have hsc:=hM.carts.sl;have hso:=hM.order.sl;have hok0:=hok;obtain⟨hnd,hll,hal,hhl,hcl,hol,hoi,hkr,hbg⟩:=hok;have hcm:(R.carts.map Mg.k).length=R.carts.length:=List.length_map ..;refine Af (n:=75) func55 rfl rfl rfl ?_;refine jG ?_;refine jV (Ba rfl rfl rfl) ?_;refine jG ?_;refine jF ?_ ?_
 ·intro hc18
  refine jG ?_;refine jJ func55 ?_;exact⟨_,rfl,none,0,[],rfl,At.nil _ _,fun _ h=>absurd h Zs,(FC (Q:=R.pv) (hc18.elim .inl (fun h=> .inr (.inl h)))).symm,(Ao.refl _ w)⟩
 ·intro hc18
  refine jG ?_;refine jR<|jC (Rs x R _ hM hok0 hI) ?_;rintro _ aM ⟨a0,rfl,a2,aN,ay,aO,az,av⟩;clear az;have K0:=(av:As w _);refine jG ?_;refine jR<|jA ?_;intro ae aP aj a1 an;replace hb:=hb.ext av;have aQ:=Aj hb.lt aj;have aA:=Ak a2.own_lt aj;have:=Nat.le_trans K0.size aj;clear aj;refine jR<|jS a1 ?_;intro aB a1 ao;refine jG ?_;replace hb:=(hb.ext an).kp ao;replace a2:=(a2.ext an).keepO ao (Aa aA);replace K0:=(K0.ext an).n1 ao;refine jF ?_ ?_
  ·intro hc25
   refine jG ?_;refine jJ func55 ?_;exact⟨_,rfl,none,0,[],rfl,At.nil _ _,fun _ h=>absurd h Zs,(FC (Q:=R.pv) (.inr (.inr hc25))).symm,K0⟩
  ·intro hc25
   refine jG ?_;refine Al.loop (ι:=Nat) (fun i ρ' w'=>∃am:Option Addr,∃cm:Nat,AG ρ' [(0,jp x),(3,jp ae),(5,.slice am (((D3 R.pv ((Bv R.pv.cs).2) i).map (fun t=>An (Ap 1 R.self t.node 0 R.key t.owner ((Bv R.pv.cs).2)) a0.only)).length) cm),(29,.slice R.la R.l.length R.lc),(30,.int .i64 ((R.l.length:Nat):Int)),(31,.int .i64 ((i:Nat):Int))]∧As w w'∧(AI w' x [.int .i64 R.self,.int .i64 R.req,.int .i64 R.need,.int .i64 R.begun,.bool R.put,.int .i64 R.id,.int .i64 R.knd,.string R.key,.string R.item,.int .i64 R.qty,.int .u64 R.price,.slice R.ss.ea R.seen.ent.length R.ss.ec,.slice R.ss.ma R.seen.mrk.length R.ss.mc,.slice R.ss.ca R.seen.cl.length R.ss.cc,.slice R.cs.ea R.cart.ent.length R.cs.ec,.slice R.cs.ma R.cart.mrk.length R.cs.mc,.slice R.cs.ca R.cart.cl.length R.cs.cc,.slice R.la R.l.length R.lc,.slice R.aa R.ans.length R.ac,.slice R.ha R.there.length R.hc,.slice R.ca ((R.carts.map Mg.k).length) R.cc,.slice R.oa R.order.length R.oc,.int .i64 R.kept,.int .i64 R.refused,.bool R.full,.bool R.told,.bool R.ok,.bool R.done] 118)∧(AI w' ae [.slice a0.ea (((Bv R.pv.cs).2).ent.length) a0.ec,.slice a0.ma (((Bv R.pv.cs).2).mrk.length) a0.mc,.slice a0.ca (((Bv R.pv.cs).2).cl.length) a0.cc] 29)∧(BF w' a0 ((Bv R.pv.cs).2))∧(Ag w' 48 am cm ((D3 R.pv ((Bv R.pv.cs).2) i).map (fun t=>An (Ap 1 R.self t.node 0 R.key t.owner ((Bv R.pv.cs).2)) a0.only)))∧(¬own am x)∧(¬own am ae)∧(∀q_,own am q_→¬Aw a0 q_)∧(∀q_,own am q_→w.heap.size≤q_)∧(i≤R.l.length)) (fun i=>R.l.length-i) 0 ?_ ?_
   ·rw[mendT_zero,List.map_nil]
    have aC:=Ag.nil (α:=Cd) aB 48;refine⟨_,_,⟨rfl,rfl,rfl,rfl,rfl,rfl,trivial⟩,K0,hb,a1,a2,aC,(Ad x),(Ad ae),(fun q_ h1 _=>Ad q_ h1),(fun q_ h1=>absurd h1 (Ad q_)),?_⟩
    ·omega
   clear hb a2 a1;clear K0;rintro i aR aS ⟨am,cm,aw,K0,hb,a1,a2,a4,ap,aq,ar,au,hi⟩ ih1;obtain⟨ρ₀,rfl⟩:=aw.ex;clear aw;refine jG ?_;refine jF ?_ ?_
   ·intro hc32
    obtain⟨aT,aU,t,ht,aV,ak⟩:=hsl.eo i;have hc_32_lt:=ak.lt;replace ak:=ak.ext K0;refine jG ?_;refine jR<|jA ?_;intro aW aX a8 a3 af;have aY:=Aj hb.lt a8;have aZ:=Aj a1.lt a8;have b0:=Aj ak.lt a8;have aD:=Ak a2.own_lt a8;have ax:=Ak a4.own_lt a8;have:=Nat.le_trans K0.size a8;clear a8;refine jG ?_;refine jR<|jS a3 ?_;intro b1 a3 ag;refine jG ?_;obtain⟨b2,b3,bb,hbe,b4,a9⟩:=hsh.eo i;have hc_52_lt:=a9.lt;replace K0:=(K0.ext af).n1 ag;obtain⟨b5,b6,cx,hcx,b7,a5⟩:=hsc.eo i;have hc_58_lt:=a5.lt;obtain⟨p,hp,hxe⟩:=Rr hcx;have hpm:p∈R.carts:=List.mem_of_getElem? hp;refine Al.drawS [] [0,1,2,1003,4,5,1006,7,8,9,10,1011,12,13,1014,1015,2016,17,18] ?_;intro b8 a6;replace hb:=((hb.ext af).kp ag).ext a6;replace a1:=((a1.ext af).kp ag).ext a6;replace a9:=(a9.ext K0).ext a6;replace a5:=(a5.ext K0).ext a6;refine jM (jb hb (jb a1 (jl a9 (jl a5 Jn)))) ?_;refine F6 ?_;refine EB ?_;refine CU ?_;refine jI ?_ (hx:=by exact(fun hg=>by rintro _ ⟨hb,a1,a9,a5,-⟩;exact(Gn (v':= .agg #[.slice p.s.ea p.v.ent.length p.s.ec,.slice p.s.ma p.v.mrk.length p.s.mc,.slice p.s.ca p.v.cl.length p.s.cc]) (CD (v:= .agg #[.slice ((cx).entries.a) ((cx).entries.len) ((cx).entries.cap),.slice (((cx).ctx).marks.a) (((cx).ctx).marks.len) (((cx).ctx).marks.cap),.slice (((cx).ctx).cloud.a) (((cx).ctx).cloud.len) (((cx).ctx).cloud.cap)]) (y:=cx) ty29 (Bh hg) a5 rfl) (by rw[hxe];try rfl))));refine jG ?_;replace a2:=((a2.ext af).keepO ag (Aa aD)).ext a6;replace K0:=K0.ext a6;refine jZ (fun hg=>(QW p.v ((Bv R.pv.cs).2) p.s a0 _ ((hI.carts p hpm).ext K0) a2.r (hI.csok p hpm).ok)) ?_;intro b9 a7;replace hb:=hb.ext a7;replace a1:=a1.ext a7;replace a9:=a9.ext a7;replace a5:=a5.ext a7;refine jG ?_;refine jP ?_ (hx:=by exact fun _=>(AN rfl rfl rfl));refine jG ?_;replace a4:=(((a4.ext af).keepO ag (Aa ax)).ext a6).ext a7;replace a3:=(a3.ext a6).ext a7;replace a2:=a2.ext a7;replace K0:=K0.ext a7;refine jF ?_ ?_
    ·intro hc54
     have hml:((D3 R.pv ((Bv R.pv.cs).2) i).map (fun t=>An (Ap 1 R.self t.node 0 R.key t.owner ((Bv R.pv.cs).2)) a0.only)).length≤i:=by rw[List.length_map];exact NZ (by show i≤R.l.length;omega)
     refine Al.drawS [] [0,1,2,3,1004,5,1006,7,8,9,10,1011,1012,13,1014,15,2016,2017,18] ?_;intro ba ab;replace hb:=hb.ext ab;replace a1:=a1.ext ab;replace a3:=a3.ext ab;refine jM (jb hb (jb a1 (jb a3 Jn))) ?_;refine jG ?_;refine jP ?_ (hx:=by exact fun _=>(Ar (cells:=#[.int .i64 1,.int .i64 R.self,.int .i64 ((t).node),.int .i64 0,.string R.key,.slice a0.ea (((Bv R.pv.cs).2).ent.length) a0.ec,.slice a0.ma (((Bv R.pv.cs).2).mrk.length) a0.mc,.slice a0.ca (((Bv R.pv.cs).2).cl.length) a0.cc,.int .i64 ((t).owner),.int .i64 0,.int .i64 0,.int .i64 0,.int .i64 0,.int .i64 0,.slice none 0 0,.slice none 0 0,.slice none 0 0]) Zk));refine jU rfl<|AD.buildSlice ([(An (Ap 1 R.self t.node 0 R.key t.owner ((Bv R.pv.cs).2)) a0.only)]:List Cd) underlying57 ty48 rfl rfl Ze ?_;intro bc be aE aF ad;clear aE;replace hb:=hb.ext ad;replace a1:=a1.ext ad;replace a3:=a3.ext ad;refine jG ?_;replace a4:=(a4.ext ab).ext ad;refine jU rfl<|AD.append (xs:=((D3 R.pv ((Bv R.pv.cs).2) i).map (fun t=>An (Ap 1 R.self t.node 0 R.key t.owner ((Bv R.pv.cs).2)) a0.only))) (ys:=([(An (Ap 1 R.self t.node 0 R.key t.owner ((Bv R.pv.cs).2)) a0.only)]:List Cd)) underlying57 ty48 rfl rfl rfl a4 aF.sl Zr Zd ?_;intro al bg bh aG ah ai aH;have aI:¬own al x:=ai.not ap hb.lt;have aJ:¬own al ae:=ai.not aq a1.lt;replace a2:=(a2.ext ab).ext ad;have aK:∀q_,own al q_→¬Aw a0 q_:=ai.apart ar a2.own_lt;replace K0:=(K0.ext ab).ext ad;have aL:∀q_,own al q_→w.heap.size≤q_:=ai.ge au K0.size;clear ai;clear aH;replace hb:=hb.keep ah ap;replace a1:=a1.keep ah aq;replace a3:=a3.keep ah ax;refine jG ?_;refine jV (Ay (c:=((i+1:Nat):Int)) (Aq rfl rfl Zo Zo) rfl) ?_;refine jG ?_;have e:=Fi (Q:=R.pv) (c:=((Bv R.pv.cs).2)) ht;rw[Lp hbe hp]at e;rw[if_pos (by rw[hc54.1,hc54.2];rfl)]at e;have e3:(D3 R.pv ((Bv R.pv.cs).2) (i+1)).map (fun t=>An (Ap 1 R.self t.node 0 R.key t.owner ((Bv R.pv.cs).2)) a0.only)=(D3 R.pv ((Bv R.pv.cs).2) i).map (fun t=>An (Ap 1 R.self t.node 0 R.key t.owner ((Bv R.pv.cs).2)) a0.only)++[(fun t=>An (Ap 1 R.self t.node 0 R.key t.owner ((Bv R.pv.cs).2)) a0.only) t]:=by rw[e,List.map_append];rfl
     refine ih1 (i+1) _ _ ?_ Zo;rw[e3];replace a2:=a2.keepO ah (Zf ar);replace K0:=K0.new ah au;refine⟨_,_,⟨rfl,rfl,rfl,rfl,rfl,rfl,trivial⟩,K0,hb,a1,a2,aG,aI,aJ,aK,aL,?_⟩
     ·omega
    ·intro hc54
     refine jG ?_;refine jV (Ay (c:=((i+1:Nat):Int)) (Aq rfl rfl Zo Zo) rfl) ?_;refine jG ?_;have e:=Fi (Q:=R.pv) (c:=((Bv R.pv.cs).2)) ht;rw[Lp hbe hp]at e;rw[if_neg (fun h_=>by rw[Bool.and_eq_true,Bool.not_eq_true']at h_;rcases hc54 with h2_|h2_<;>simp_all),List.append_nil]at e;refine ih1 (i+1) _ _ ?_ Zo;rw[e];refine⟨_,_,⟨rfl,rfl,rfl,rfl,rfl,rfl,trivial⟩,K0,hb,a1,a2,a4,ap,aq,ar,au,?_⟩
     ·omega
   ·intro hc32
    refine jG ?_;refine jJ func55 ?_;have hke:((D3 R.pv ((Bv R.pv.cs).2) i).map (fun t=>(⟨Ap 1 R.self t.node 0 R.key t.owner ((Bv R.pv.cs).2),a0.only⟩:Mg))).map Mg.c=((D3 R.pv ((Bv R.pv.cs).2) i).map (fun t=>An (Ap 1 R.self t.node 0 R.key t.owner ((Bv R.pv.cs).2)) a0.only)):=by rw[List.map_map];rfl
    rw[←hke]at a4⊢;refine⟨_,rfl,_,_,_,rfl,a4.sl,fun m hm=> ?_,?_,K0⟩
    ·obtain⟨t,-,rfl⟩:=List.mem_map.1 hm
     exact⟨L7 a2.r,Db ay.ok⟩
    ·rw[Jz (Q:=R.pv) (fun h_=>by rcases h_ with h_|h_|h_<;>simp_all),List.map_map,show i=R.pv.l.length from by show i=R.l.length;omega];rfl
end Go.Proofs.YtocgdeefgohdhaaGreat
