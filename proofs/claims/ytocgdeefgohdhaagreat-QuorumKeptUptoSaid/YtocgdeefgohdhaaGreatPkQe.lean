/-
  Qe
-/
import Derived.Test.YtocgdeefgohdhaaGreatRows
import Derived.Test.YtocgdeefgohdhaaGreatPkQd
import Derived.Test.YtocgdeefgohdhaaGreatPkI
set_option linter.all false
set_option maxRecDepth 100000
set_option maxHeartbeats 4000000
namespace Go.Proofs.YtocgdeefgohdhaaGreat
attribute [local irreducible] RD RS St1 RL RA RT RT1 Run
def keptN :List MV→Nat
 |[]=>0
 |v::l=>(if v.n=0 then 1 else 0)+keptN l
def fullB (l:List MV):Bool:=l.any fun v=>decide (v.n≠0)&&decide (v.n=7)
theorem keptN_app (l:List MV)(v:MV):keptN (l++[v])=keptN l+(if v.n=0 then 1 else 0):=by
 induction l with
 |nil=>simp[keptN]
 |cons x l ih=>rw[List.cons_append,keptN,keptN,ih];omega
theorem keptN_le :∀l:List MV,keptN l≤l.length
 |[]=>Nat.le_refl _
 |v::l=>by have:=keptN_le l;rw[keptN,List.length_cons];split<;>omega
theorem keptN_succ {l:List MV}{i:Nat}{v:MV}(h:l[i]? =some v):keptN (l.take (i+1))=keptN (l.take i)+(if v.n=0 then 1 else 0):=by rw[take_snocD h,keptN_app]
theorem fullB_succ {l:List MV}{i:Nat}{v:MV}(h:l[i]? =some v):fullB (l.take (i+1))=(fullB (l.take i)||(decide (v.n≠0)&&decide (v.n=7))):=by
 unfold fullB;rw[take_snocD h,List.any_append];simp
theorem keptN_zero (l:List MV):keptN (l.take 0)=0:=rfl
theorem fullB_zero (l:List MV):fullB (l.take 0)=false:=rfl
def putS (Q:PM):Int:=
 if Q.need≤keptN Q.got then 200 else if Q.need≤(Q.targets.length:Int)-((Q.got.length:Int)-keptN Q.got)then 0 else if fullB Q.got=true then 507 else 500
def toldI (Q:PM)(s:Int):Int:=if s=0 then 0 else Q.id
def toldV (v:MV)(s:Int):MV:=if s=200 then v else nilV
theorem nil_C {w:World}:CartO w nilS nilV:=⟨OwnSl.nil _ _,OwnSl.nil _ _,OwnSl.nil _ _⟩
theorem nil_CA :CartA nilS:=⟨fun _ h=>absurd h (own_none _),fun _ h=>absurd h (own_none _),fun _ h=>absurd h (own_none _)⟩
theorem nil_CS :∀q,¬cartS nilS q:=by rintro q (h|h|h)<;>exact own_none _ h
section
variable {Q :PM}
theorem putS_200 (h:Q.need≤keptN Q.got):putS Q=200:=by rw[putS,if_pos h]
theorem putS_0 (h:¬Q.need≤keptN Q.got)(h2:Q.need≤(Q.targets.length:Int)-((Q.got.length:Int)-keptN Q.got)):putS Q=0:=by rw[putS,if_neg h,if_pos h2]
theorem putS_507 (h:¬Q.need≤keptN Q.got)(h2:¬Q.need≤(Q.targets.length:Int)-((Q.got.length:Int)-keptN Q.got))(h3:fullB Q.got=true):putS Q=507:=by rw[putS,if_neg h,if_neg h2,if_pos h3]
theorem putS_500 (h:¬Q.need≤keptN Q.got)(h2:¬Q.need≤(Q.targets.length:Int)-((Q.got.length:Int)-keptN Q.got))(h3:fullB Q.got=false):putS Q=500:=by rw[putS,if_neg h,if_neg h2,if_neg (by simp[h3])]
end
attribute [local irreducible] X
theorem ptakes_ (p:Option Addr)(v:MV)(s:Six)(w:World):
  Calls Tryz.prog 152 #[.pointer (p),.agg #[.int .i64 (((mkC v s)).kind),.int .i64 (((mkC v s)).frm),.int .i64 (((mkC v s)).to),.int .i64 (((mkC v s)).req),.string (((mkC v s)).key),.slice (s.ea) (v.ent.length) (s.ec),.slice (s.ma) (v.mrk.length) (s.mc),.slice (s.ca) (v.cl.length) (s.cc),.int .i64 (((mkC v s)).owner),.int .i64 (((mkC v s)).part),.int .i64 (((mkC v s)).n),.int .i64 ((((mkC v s)).ring).parts),.int .i64 ((((mkC v s)).ring).copies),.int .i64 ((((mkC v s)).ring).spots),.slice (s.ba) (v.mem.length) (s.bc),.slice (s.pa) (v.pe.length) (s.pc),.slice (s.sa) (v.su.length) (s.sc)]] w (Ret (fun r w'=>r= .bool (decide (v.kind=2))∧Ext w w')):=by
 refine calls_run (n:=8) Tryz.func152 rfl rfl rfl ?_;refine jG ?_;refine jR<|jB ?_;intro a1 a3 a0 a4 a2;have:w.heap.size≤a1:=a0;clear a0;have K0:=(a2:Ext w _);refine jG ?_;refine jJ Tryz.func152 ?_;exact⟨_,rfl,congrArg Value.bool (by rw[Bool.eq_iff_iff];simp),K0⟩
theorem plast_ (p:Option Addr)(m:Nat)(w:World):
  Calls Tryz.prog 151 #[.pointer (p),jp m] w (Ret (fun r w'=>r= .slice none 0 0∧Ext w w')):=by
 refine calls_run (n:=5) Tryz.func151 rfl rfl rfl ?_;refine jG ?_;refine jJ Tryz.func151 ?_;exact⟨_,rfl,rfl,(Keeps.refl _ w)⟩
theorem pheard_ (m:Nat)(M:Mq)(w:World)(hM:MqAt w m M)(hok:MqOk M)(hput:M.put=true):
  Calls Tryz.prog 150 #[jp M.kb,jp m] w (Ret (fun r w'=>∃s',r= .tuple #[.agg #[.int .i64 (toldI M.pv (putS M.pv)),.int .i64 ((putS M.pv)),.slice (((mkC (toldV M.cart (putS M.pv)) s').cart).entries.a) (((mkC (toldV M.cart (putS M.pv)) s').cart).entries.len) (((mkC (toldV M.cart (putS M.pv)) s').cart).entries.cap),.slice ((((mkC (toldV M.cart (putS M.pv)) s').cart).ctx).marks.a) ((((mkC (toldV M.cart (putS M.pv)) s').cart).ctx).marks.len) ((((mkC (toldV M.cart (putS M.pv)) s').cart).ctx).marks.cap),.slice ((((mkC (toldV M.cart (putS M.pv)) s').cart).ctx).cloud.a) ((((mkC (toldV M.cart (putS M.pv)) s').cart).ctx).cloud.len) ((((mkC (toldV M.cart (putS M.pv)) s').cart).ctx).cloud.cap)],.bool (decide ((putS M.pv)≠0))]∧CartO w' s' (toldV M.cart (putS M.pv))∧CartA s'∧(∀q,cartS s' q→w.heap.size≤q)∧Ext w w')):=by
 have hM0:=hM;have hok0:=hok;obtain⟨hb,hkp,hkg,hgt,hr,hnk,hng,hnkg,hnr⟩:=hM;obtain⟨⟨hnd1,hnd2⟩,htc,htl,hgl,hsok,hcok,hgok,hfine,hbeg⟩:=hok;have hgm:(M.got.map Mg.c).length=M.got.length:=List.length_map ..;have hk:=hkp hput;have hgm2:(M.got.map Mg.v).length=M.got.length:=List.length_map ..;refine calls_run (n:=69) Tryz.func150 rfl rfl rfl ?_;refine jG ?_;refine jR<|jA ?_;intro ae aC a5 a0 af;have aD:=ltLe hb.lt a5;have aE:=ltLe hk.lt a5;have:w.heap.size≤ae:=a5;clear a5;have K0:=(af:Ext w _);replace hb:=hb.ext af;refine jG ?_;replace hk:=hk.ext af;refine Run.loop (ι:=Nat) (fun i ρ' w'=>∃rf:Int,Holds ρ' [(0,jp M.kb),(1,jp m),(4,jp ae),(6,.int .i64 (((keptN ((M.got.map Mg.v).take i):Nat):Int))),(7,.int .i64 (rf)),(8,.bool (fullB ((M.got.map Mg.v).take i))),(14,.slice (M.ga) ((M.got.map Mg.c).length) (M.gc)),(15,.int .i64 ((((M.got.map Mg.c).length:Nat):Int))),(16,.int .i64 (((i:Nat):Int)))]∧Ext w w'∧(Blk w' m [.int .i64 (M.self),.int .i64 (M.req),.int .i64 (M.need),.int .i64 (M.began),.int .i64 (M.id),.int .i64 (M.knd),.string (M.key),.string (M.item),.int .i64 (M.qty),.int .u64 (M.price),.slice (M.ss.ea) (M.seen.ent.length) (M.ss.ec),.slice (M.ss.ma) (M.seen.mrk.length) (M.ss.mc),.slice (M.ss.ca) (M.seen.cl.length) (M.ss.cc),.slice (M.ta) (M.targets.length) (M.tc),.slice (M.ga) ((M.got.map Mg.c).length) (M.gc),.bool (M.answered),.bool (M.done),.bool (M.made),.int .i64 (M.status),.iface (kT M.put) (jp M.kb)] 99)∧(Blk w' M.kb [.slice (M.cs.ea) (M.cart.ent.length) (M.cs.ec),.slice (M.cs.ma) (M.cart.mrk.length) (M.cs.mc),.slice (M.cs.ca) (M.cart.cl.length) (M.cs.cc)] 136)∧(Blk w' ae [.int .i64 (0),.int .i64 (0),.slice (none) (0) (0),.slice (none) (0) (0),.slice (none) (0) (0)] 63)∧(i≤M.got.length)∧(rf=((i:Nat):Int)-((keptN ((M.got.map Mg.v).take i):Nat):Int))) (fun i=>M.got.length-i) 0 ?_ ?_
 ·rw[keptN_zero,fullB_zero]
  refine⟨0,⟨rfl,rfl,rfl,rfl,rfl,rfl,rfl,rfl,rfl,trivial⟩,K0,hb,hk,a0,?_,?_⟩
  ·omega
  ·rfl
 clear hb hk a0;clear K0;rintro i aF aG ⟨rf,an,K0,hb,hk,a0,hi,hrf⟩ ih1;obtain⟨ρ₀,rfl⟩:=an.ex;clear an;refine jG ?_;refine jF ?_ ?_
 ·intro hc17
  obtain⟨aH,aI,x,hx,aJ,a6⟩:=hgt.sl.eo i;have hc_14_lt:=a6.lt;replace a6:=a6.ext K0;refine jG ?_;refine jR<|jA ?_;intro aK aL a4 ao a7;have aM:=ltLe hb.lt a4;have aN:=ltLe hk.lt a4;have aO:=ltLe a0.lt a4;have aP:=ltLe a6.lt a4;have:=Nat.le_trans K0.size a4;clear a4;refine jR<|jS ao ?_;intro aQ ao a8;obtain⟨p,hp,hxe,hv⟩:=c_get hx;have hxn:x.n=p.v.n:=by rw[hxe]
  have hkl:=keptN_le ((M.got.map Mg.v).take i);have htl2:((M.got.map Mg.v).take i).length=i:=by rw[List.length_take];omega
  refine jG ?_;replace hb:=(hb.ext a7).kp a8;replace hk:=(hk.ext a7).kp a8;replace a0:=(a0.ext a7).kp a8;replace K0:=(K0.ext a7).n1 a8;refine jF ?_ ?_
  ·intro hc22
   refine jG ?_;refine jV (litI (c:=(((keptN ((M.got.map Mg.v).take i))+1:Nat):Int)) (x_add rfl rfl (by omega) (by omega)) rfl) ?_;refine jG ?_;refine jV (litI (c:=((i+1:Nat):Int)) (x_add rfl rfl (by omega) (by omega)) rfl) ?_;refine jG ?_;have e:=keptN_succ hv;rw[if_pos (by omega)]at e;have e2:=fullB_succ hv;rw[show decide (p.v.n≠0)=false from decide_eq_false (by omega),Bool.false_and,Bool.or_false]at e2;refine ih1 (i+1) _ _ ?_ (by omega);rw[e,e2];refine⟨rf,⟨rfl,rfl,rfl,rfl,rfl,rfl,rfl,rfl,rfl,trivial⟩,K0,hb,hk,a0,?_,?_⟩
   ·omega
   ·omega
  ·intro hc22
   refine jG ?_;refine jV (x_add rfl rfl (by omega) (by omega)) ?_;refine jG ?_;refine jV (x_or rfl rfl rfl) ?_;refine jG ?_;refine jV (litI (c:=((i+1:Nat):Int)) (x_add rfl rfl (by omega) (by omega)) rfl) ?_;refine jG ?_;have e:=keptN_succ hv;rw[if_neg (by omega),Nat.add_zero]at e;have e2:=fullB_succ hv;rw[show decide (p.v.n≠0)=true from decide_eq_true (by omega),Bool.true_and,show decide (p.v.n=7)=(x.n==7)by rw[hxn,Bool.eq_iff_iff];simp]at e2;refine ih1 (i+1) _ _ ?_ (by omega);rw[e,e2];refine⟨(rf+1),⟨rfl,rfl,rfl,rfl,rfl,rfl,rfl,rfl,rfl,trivial⟩,K0,hb,hk,a0,?_,?_⟩
   ·omega
   ·omega
 ·intro hc17
  refine jG ?_;refine jF ?_ ?_
  ·intro hc34
   refine jG ?_;refine jR<|jC (toldY_ m M M.cart M.cs _ (hM0.ext K0) hok0 (hr.cart.ext K0) hcok.ok) ?_;rintro _ aR ⟨a1,rfl,ag,ar,ah,a9⟩;have au:=notNew ah a0.lt;have av:=geTr K0.size ah;clear ah;replace a0:=a0.ext a9;refine jR<|jS a0 ?_;intro aS a0 aa;refine jG ?_;refine Run.retCT (x:= .bool (true)) (cs:=#[.int .i64 (M.id),.int .i64 (200),.slice (a1.ea) (M.cart.ent.length) (a1.ec),.slice (a1.ma) (M.cart.mrk.length) (a1.mc),.slice (a1.ca) (M.cart.cl.length) (a1.cc)]) Tryz.func150 rfl ty63 rfl rfl a0.cl rfl ?_;have hkt:(M.got.map Mg.v).take i=(M.got.map Mg.v):=List.take_of_length_le (by omega);rw[hkt]at hrf hc34;rw[putS_200 (Q:=M.pv) hc34];replace hb:=(hb.ext a9).kp aa;replace hk:=(hk.ext a9).kp aa;replace K0:=(K0.ext a9).n1 aa;replace ag:=ag.keepO aa (noOne au);exact⟨_,rfl,a1,rfl,ag,ar,av,K0⟩
  ·intro hc34
   refine jG ?_;refine Run.drawR ?_;intro aT ab;replace hb:=hb.ext ab;refine jG ?_;refine jD (x_sub rfl rfl (by omega) (by omega)) ?_;refine jG ?_;replace hk:=hk.ext ab;replace a0:=a0.ext ab;replace K0:=K0.ext ab;refine jF ?_ ?_
   ·intro hc47
    refine jG ?_;refine jV (x_build (cells:=#[.int .i64 (0),.int .i64 (0),.slice (none) (0) (0),.slice (none) (0) (0),.slice (none) (0) (0)]) (by kernel_rfl)) ?_;refine jR<|jS a0 ?_;intro aU a0 ai;refine jG ?_;refine Run.retCT (x:= .bool (false)) (cs:=#[.int .i64 (0),.int .i64 (0),.slice (none) (0) (0),.slice (none) (0) (0),.slice (none) (0) (0)]) Tryz.func150 rfl ty63 rfl rfl a0.cl rfl ?_;have hkt:(M.got.map Mg.v).take i=(M.got.map Mg.v):=List.take_of_length_le (by omega);rw[hkt]at hrf hc34;rw[putS_0 (Q:=M.pv) (by simp only;omega) (by simp only;omega)];replace hb:=hb.kp ai;replace hk:=hk.kp ai;replace K0:=K0.n1 ai;exact⟨_,rfl,nilS,rfl,nil_C,nil_CA,fun q h_=>absurd h_ (nil_CS q),K0⟩
   ·intro hc47
    refine jG ?_;refine Run.cond rfl (fun hc61=> ?_) (fun hc61=> ?_)
    ·skip
     refine jG ?_;refine jV (x_build (cells:=#[.slice (none) (0) (0),.slice (none) (0) (0),.slice (none) (0) (0)]) (by kernel_rfl)) ?_;refine jR<|jC (toldN_ m M 507 nilV nilS _ (hM0.ext K0) hok0 nil_R.cart (by decide)) ?_;rintro _ aV ⟨a2,rfl,aj,aw,ak,ac⟩;have ax:=notNew ak a0.lt;have ay:=geTr K0.size ak;clear ak;replace a0:=a0.ext ac;refine jR<|jS a0 ?_;intro aW a0 ad;refine jG ?_;refine Run.retCT (x:= .bool (true)) (cs:=#[.int .i64 (M.id),.int .i64 (507),.slice (a2.ea) (nilV.ent.length) (a2.ec),.slice (a2.ma) (nilV.mrk.length) (a2.mc),.slice (a2.ca) (nilV.cl.length) (a2.cc)]) Tryz.func150 rfl ty63 rfl rfl a0.cl rfl ?_;have hkt:(M.got.map Mg.v).take i=(M.got.map Mg.v):=List.take_of_length_le (by omega);rw[hkt]at hrf hc34;rw[putS_507 (Q:=M.pv) (by simp only;omega) (by simp only;omega) (by rw[hkt]at hc61;exact hc61)];replace hb:=(hb.ext ac).kp ad;replace hk:=(hk.ext ac).kp ad;replace K0:=(K0.ext ac).n1 ad;replace aj:=aj.keepO ad (noOne ax);exact⟨_,rfl,a2,rfl,aj,aw,ay,K0⟩
    ·skip
     refine jG ?_;refine jV (x_build (cells:=#[.slice (none) (0) (0),.slice (none) (0) (0),.slice (none) (0) (0)]) (by kernel_rfl)) ?_;refine jR<|jC (toldN_ m M 500 nilV nilS _ (hM0.ext K0) hok0 nil_R.cart (by decide)) ?_;rintro _ aX ⟨a3,rfl,al,az,am,ap⟩;have aA:=notNew am a0.lt;have aB:=geTr K0.size am;clear am;replace a0:=a0.ext ap;refine jR<|jS a0 ?_;intro aY a0 aq;refine jG ?_;refine Run.retCT (x:= .bool (true)) (cs:=#[.int .i64 (M.id),.int .i64 (500),.slice (a3.ea) (nilV.ent.length) (a3.ec),.slice (a3.ma) (nilV.mrk.length) (a3.mc),.slice (a3.ca) (nilV.cl.length) (a3.cc)]) Tryz.func150 rfl ty63 rfl rfl a0.cl rfl ?_;have hkt:(M.got.map Mg.v).take i=(M.got.map Mg.v):=List.take_of_length_le (by omega);rw[hkt]at hrf hc34;rw[putS_500 (Q:=M.pv) (by simp only;omega) (by simp only;omega) (by rw[hkt]at hc61;exact hc61)];replace K0:=(K0.ext ap).n1 aq;replace al:=al.keepO aq (noOne aA);exact⟨_,rfl,a3,rfl,al,az,aB,K0⟩
end Go.Proofs.YtocgdeefgohdhaaGreat
