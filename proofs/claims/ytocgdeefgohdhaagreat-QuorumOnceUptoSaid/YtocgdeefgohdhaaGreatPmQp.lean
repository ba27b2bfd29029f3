/-
  Qp
-/
import Derived.Test.YtocgdeefgohdhaaGreatRows
import Derived.Test.YtocgdeefgohdhaaGreatPmQo
import Derived.Test.YtocgdeefgohdhaaGreatPmI
set_option linter.all false
set_option maxRecDepth 100000
set_option maxHeartbeats 4000000
namespace Go.Proofs.YtocgdeefgohdhaaGreat
attribute [local irreducible] RD RS St1 RL RA RT RT1 Run
def tickOk (Q:PM)(now:Int):Bool:=Q.made&& !Q.done&&decide (Q.began+1000≤now)
abbrev qD (Q:PM)(st:Int):PM:=⟨Q.self,Q.req,Q.need,Q.began,Q.id,Q.key,Q.seen,Q.targets,Q.got,true,true,Q.made,st,Q.put,Q.cart,Q.fine,Q.bad⟩
open Classical in
noncomputable def tickN (Q:PM)(now:Int):PM:=if tickOk Q now=true then qD Q (if Q.answered=true then Q.status else 504)else Q
open Classical in
noncomputable def tickMs (Q:PM)(now:Int):List MV:=if tickOk Q now=true∧Q.answered=true then lastL (qD Q Q.status)else[]
open Classical in
noncomputable def tickSt (Q:PM)(now:Int):Int:=if tickOk Q now=true∧Q.answered=false then 504 else 0
section
variable {Q :PM}{now:Int}
theorem tick_no (h:¬tickOk Q now=true):tickN Q now=Q∧tickMs Q now=[]∧tickSt Q now=0:=⟨by rw[tickN,if_neg h],by rw[tickMs,if_neg (fun e=>h e.1)],by rw[tickSt,if_neg (fun e=>h e.1)]⟩
theorem tick_a (h:tickOk Q now=true)(ha:Q.answered=true):tickN Q now=qD Q Q.status∧tickMs Q now=lastL (qD Q Q.status)∧tickSt Q now=0:=⟨by rw[tickN,if_pos h,if_pos ha],by rw[tickMs,if_pos ⟨h,ha⟩],by rw[tickSt,if_neg (fun e=>by rw[ha]at e;exact absurd e.2 (by decide))]⟩
theorem tick_n (h:tickOk Q now=true)(ha:Q.answered=false):tickN Q now=qD Q 504∧tickMs Q now=[]∧tickSt Q now=504:=⟨by rw[tickN,if_pos h,if_neg (by rw[ha];decide)],by rw[tickMs,if_neg (fun e=>by rw[ha]at e;exact absurd e.2 (by decide))],by rw[tickSt,if_pos ⟨h,ha⟩]⟩
theorem tickOk_iff :tickOk Q now=true↔(Q.made&& !Q.done)=true∧Q.began+1000≤now:=by unfold tickOk;simp only[Bool.and_eq_true,decide_eq_true_eq]
theorem MInv.tick (h:MInv Q):MInv (tickN Q now):=by
 by_cases hk:tickOk Q now=true
 ·rw[tickN,if_pos hk];exact⟨h.ok,h.cx⟩
 ·rw[(tick_no hk).1];exact h
end
section
variable {w :World}{m:Nat}{M:Mq}{an:Bool}{st:Int}
abbrev mqD (M:Mq)(an:Bool)(st:Int):Mq:=⟨M.self,M.req,M.need,M.began,M.id,M.knd,M.key,M.item,M.qty,M.price,M.seen,M.ss,M.ta,M.tc,M.targets,M.ga,M.gc,M.got,an,true,M.made,st,M.put,M.kb,M.cart,M.cs,M.fine,M.bad⟩
theorem mqD_atP (hb:Blk w m ((mqD M an st).cellsK 134) 99)(hput:M.put=true)(hk:Blk w M.kb (c3 M.cart M.cs) 136)(hg:OwnSl w 48 M.ga M.gc (M.got.map Mg.c))(hr:RestAt w M)(n1:m≠M.kb)(g1:¬own M.ga m)(g2:¬own M.ga M.kb)(r1:¬restS M m)(r2:¬restS M M.kb)(r3:∀q,restS M q→¬own M.ga q):MqAt w m (mqD M an st):=
 mqP_at hb hput hk hg ⟨hr.tg,hr.seen,hr.cart,hr.gots⟩ n1 g1 g2 r1 r2 r3
theorem mqD_atG (hb:Blk w m ((mqD M an st).cellsK 141) 99)(hget:M.put=false)(hk:Blk w M.kb (c3 M.cart M.cs++[.int .i64 M.fine,.bool M.bad]) 143)(hg:OwnSl w 48 M.ga M.gc (M.got.map Mg.c))(hr:RestAt w M)(n1:m≠M.kb)(g1:¬own M.ga m)(g2:¬own M.ga M.kb)(r1:¬restS M m)(r2:¬restS M M.kb)(r3:∀q,restS M q→¬own M.ga q):MqAt w m (mqD M an st):=
 ⟨kblk hb (by rw[hget]),(fun e=>by rw[hget]at e;cases e),fun _=>hk,hg,⟨hr.tg,hr.seen,hr.cart,hr.gots⟩,n1,g1,g2,fun q hq=>⟨fun e=>r1 (e▸hq),fun e=>r2 (e▸hq),r3 q hq⟩⟩
theorem mqD_ok (h:MqOk M):MqOk (mqD M an st):=⟨h.need,h.tc,h.tl,h.gl,h.seen,h.cart,h.gots,h.fine,h.began⟩
end
attribute [local irreducible] X
theorem tickp_ (m:Nat)(M:Mq)(now:Int)(w:World)(hM:MqAt w m M)(hok:MqOk M)(hput:M.put=true)(hP:POk M.pv):
  Calls Tryz.prog 18 #[jp m,.int .i64 (now)] w (Ret (fun r w'=>StepAt w w' m (mqS m M) (tickN M.pv now) (tickMs M.pv now) M.id (tickSt M.pv now) nilV r)):=by
 have hM0:=hM;have hok0:=hok;obtain⟨hb,hkp,hkg,hgt,hr,hnk,hng,hnkg,hnr⟩:=hM;obtain⟨⟨hnd1,hnd2⟩,htc,htl,hgl,hsok,hcok,hgok,hfine,hbeg⟩:=hok;have hgm:(M.got.map Mg.c).length=M.got.length:=List.length_map ..;have hk:=hkp hput;replace hb:=blkK hb (kT_put hput);have hrb:¬restS M m:=fun h_=>(hnr m h_).1 rfl;have hrk:¬restS M M.kb:=fun h_=>(hnr _ h_).2.1 rfl;have hrg:∀q,restS M q→¬own M.ga q:=fun q h_=>(hnr q h_).2.2;refine calls_run (n:=42) Tryz.func18 rfl rfl rfl ?_;refine jG2 ?_;by_cases hlv:(M.made&& !M.done)=true
 ·by_cases htk:M.began+1000≤now
  ·refine jG ?_
   refine jR<|jC (live_ m M _ (mqP_at hb hput hk hgt hr hnk hng hnkg hrb hrk hrg) hok0) ?_;rintro _ ar ⟨rfl,a3⟩;have K0:=(a3:Ext w _).to (S:=(mqS m M));refine jV (litF (x_not rfl) (by simp[hlv])) ?_;replace hb:=hb.ext a3;refine jG ?_;refine jT<|jO (x_add rfl rfl (by omega) (by omega)) ?_;refine jT<|jO (litF (x_ltI rfl rfl) (by first|exact decide_eq_true (by omega)|exact decide_eq_false (by omega))) ?_;refine jV (x_orF rfl rfl rfl) ?_;refine jG ?_;refine Run.condF rfl ?_;refine jG ?_;refine jR<|jS hb ?_;intro au hb a8;replace K0:=K0.tf a8 ((Or.inl rfl));refine Jct ?_;replace hk:=(hk.ext a3).kp a8;replace hgt:=(hgt.ext a3).keepO a8 (noOne hng);replace hr:=(hr.ext a3).keepO a8 (noOne hrb);by_cases han:M.answered=true
   ·refine jG4 ?_
    refine jV (litF (x_not rfl) (by simp[han])) ?_;refine jG ?_;refine Run.condF rfl ?_;refine jG ?_;refine jR<|St1.callI (vals:=[jp M.kb,jp m]) (fun w=>by kernel_rfl) en151.h rfl rfl (plast_ (some ⟨M.kb,0,none⟩) m _) ?_;rintro _ av ⟨rfl,a4⟩;refine jG ?_;refine jK Tryz.func18 ?_;obtain⟨e1,e2,e3⟩:=tick_a (Q:=M.pv) (now:=now) (tickOk_iff.2 ⟨hlv,htk⟩) han;rw[e1,e2,e3];have hqd:qD M.pv M.pv.status=(mqD M M.answered M.status).pv:=by show qD M.pv M.status=PM.mk _ _ _ _ _ _ _ _ _ M.answered _ _ _ _ _ _ _;rw[han]
    rw[hqd];rw[lastL_put (Q:=(mqD M M.answered M.status).pv) hput];replace hb:=hb.ext a4;replace hk:=hk.ext a4;replace hgt:=hgt.ext a4;replace hr:=hr.ext a4;replace K0:=K0.ext a4;exact⟨_,rfl,StepAt.plain ⟨(mqD M M.answered M.status),rfl,rfl,(mqD_atP hb hput hk hgt hr hnk hng hnkg hrb hrk hrg),mqD_ok hok0⟩ (.inl ⟨rfl,rfl⟩) (fun q_ h_=> .inl h_) K0⟩
   ·refine jG4 ?_
    refine jV (litT (x_not rfl) (by simp[han])) ?_;refine jG ?_;refine jT1 ?_;refine jG ?_;refine jR<|jS hb ?_;intro aw hb a9;replace K0:=K0.tf a9 ((Or.inl rfl));refine jG ?_;refine jR<|jS hb ?_;intro ax hb aa;replace K0:=K0.tf aa ((Or.inl rfl));refine jG ?_;refine jV (x_build (cells:=#[.slice (none) (0) (0),.slice (none) (0) (0),.slice (none) (0) (0)]) (by kernel_rfl)) ?_;replace hk:=(hk.kp a9).kp aa;replace hgt:=(hgt.keepO a9 (noOne hng)).keepO aa (noOne hng);replace hr:=(hr.keepO a9 (noOne hrb)).keepO aa (noOne hrb);refine jR<|jC (toldN_ m (mqD M true 504) 504 nilV nilS _ (mqD_atP hb hput hk hgt hr hnk hng hnkg hrb hrk hrg) (mqD_ok hok0) nil_R.cart (by decide)) ?_;rintro _ ay ⟨ac,rfl,ab,ad,a1,a5⟩;have ae:=notNew a1 hb.lt;have af:=notNew a1 hk.lt;have ag:=apartNew a1 hgt.own_lt;have ah:=apartNew a1 hr.own_lt;have ai:=geTr K0.size a1;clear a1;refine jR<|St1.buildSlice ([(⟨M.id,504,(mkC nilV ac).cart⟩:ToldC)]:List ToldC) Tryz.underlying58 ty63 rfl rfl (by first|decide|(simp[Enc.size])) ?_;intro aj az a0 ak a2;replace hb:=hb.ext a5;have al:=notNew (ge_new a0) hb.lt;replace hk:=hk.ext a5;have am:=notNew (ge_new a0) hk.lt;replace hgt:=hgt.ext a5;have an:=apartNew (ge_new a0) hgt.own_lt;replace hr:=hr.ext a5;have ao:=apartNew (ge_new a0) hr.own_lt;have ap:=apartNew (ge_new a0) ab.own_lt;replace K0:=K0.ext a5;have aq:=geTr K0.size (ge_new a0);clear a0;refine jG ?_;refine jK Tryz.func18 ?_;obtain⟨e1,e2,e3⟩:=tick_n (Q:=M.pv) (now:=now) (tickOk_iff.2 ⟨hlv,htk⟩) (show M.answered=false by simpa using han);rw[e1,e2,e3];replace hb:=hb.ext a2;replace hk:=hk.ext a2;replace hgt:=hgt.ext a2;replace hr:=hr.ext a2;replace ab:=ab.ext a2;replace K0:=K0.ext a2
    have hA1:∀q_,mqS m M q_→¬own (some ⟨aj,0,none⟩) q_:=by
     rintro q_ (h_|h_|h_|h_)
     ·rw[h_];exact al
     ·rw[h_];exact am
     ·exact(fun q_ h1 h2=>an q_ h2 h1) q_ h_
     ·exact(fun q_ h1 h2=>ao q_ h2 h1) q_ h_
    have hA2:∀q_,mqS m M q_→¬cartS ac q_:=by
     rintro q_ (h_|h_|h_|h_)
     ·rw[h_];exact ae
     ·rw[h_];exact af
     ·exact(fun q_ h1 h2=>ag q_ h2 h1) q_ h_
     ·exact(fun q_ h1 h2=>ah q_ h2 h1) q_ h_
    exact⟨_,rfl,StepAt.plain ⟨(mqD M true 504),rfl,rfl,(mqD_atP hb hput hk hgt hr hnk hng hnkg hrb hrk hrg),mqD_ok hok0⟩ (.inr ⟨by decide,_,_,ac,rfl,ak,ab,ad,aq,ai,(fun q_ h1 h2=>ap q_ h2 h1),hA1,hA2⟩) (fun q_ h_=> .inl h_) K0⟩
  ·refine jG ?_
   refine jR<|jC (live_ m M _ (mqP_at hb hput hk hgt hr hnk hng hnkg hrb hrk hrg) hok0) ?_;rintro _ aA ⟨rfl,a6⟩;have K0:=(a6:Ext w _).to (S:=(mqS m M));refine jV (litF (x_not rfl) (by simp[hlv])) ?_;replace hb:=hb.ext a6;refine jG ?_;refine jT<|jO (x_add rfl rfl (by omega) (by omega)) ?_;refine jT<|jO (litT (x_ltI rfl rfl) (by first|exact decide_eq_true (by omega)|exact decide_eq_false (by omega))) ?_;refine jV (x_orF rfl rfl rfl) ?_;refine jG ?_;refine jT1 ?_;refine jG ?_;refine jK Tryz.func18 ?_;obtain⟨e1,e2,e3⟩:=tick_no (Q:=M.pv) (now:=now) (fun h_=>htk (tickOk_iff.1 h_).2);rw[e1,e2,e3];replace hk:=hk.ext a6;replace hgt:=hgt.ext a6;replace hr:=hr.ext a6;exact⟨_,rfl,StepAt.plain ⟨M,rfl,rfl,(mqP_at hb hput hk hgt hr hnk hng hnkg hrb hrk hrg),hok0⟩ (.inl ⟨rfl,rfl⟩) (fun q_ h_=> .inl h_) K0⟩
 ·refine jG ?_
  refine jR<|jC (live_ m M _ (mqP_at hb hput hk hgt hr hnk hng hnkg hrb hrk hrg) hok0) ?_;rintro _ aB ⟨rfl,a7⟩;have K0:=(a7:Ext w _).to (S:=(mqS m M));refine jV (litT (x_not rfl) (by simp[hlv])) ?_;refine jG ?_;refine jV (x_or (b:=true) (e:=false) rfl rfl rfl) ?_;refine jG ?_;refine jT1 ?_;refine jG ?_;refine jK Tryz.func18 ?_;obtain⟨e1,e2,e3⟩:=tick_no (Q:=M.pv) (now:=now) (fun h_=>hlv (tickOk_iff.1 h_).1);rw[e1,e2,e3];replace hb:=hb.ext a7;replace hk:=hk.ext a7;replace hgt:=hgt.ext a7;replace hr:=hr.ext a7;exact⟨_,rfl,StepAt.plain ⟨M,rfl,rfl,(mqP_at hb hput hk hgt hr hnk hng hnkg hrb hrk hrg),hok0⟩ (.inl ⟨rfl,rfl⟩) (fun q_ h_=> .inl h_) K0⟩
theorem tickg_ (m:Nat)(M:Mq)(now:Int)(w:World)(hM:MqAt w m M)(hok:MqOk M)(hget:M.put=false)(hP:POk M.pv):
  Calls Tryz.prog 18 #[jp m,.int .i64 (now)] w (Ret (fun r w'=>StepAt w w' m (mqS m M) (tickN M.pv now) (tickMs M.pv now) M.id (tickSt M.pv now) nilV r)):=by
 have hM0:=hM;have hok0:=hok;obtain⟨hb,hkp,hkg,hgt,hr,hnk,hng,hnkg,hnr⟩:=hM;obtain⟨⟨hnd1,hnd2⟩,htc,htl,hgl,hsok,hcok,hgok,hfine,hbeg⟩:=hok;have hgm:(M.got.map Mg.c).length=M.got.length:=List.length_map ..;have hk:=hkg hget;replace hb:=blkK hb (kT_get hget);have hrb:¬restS M m:=fun h_=>(hnr m h_).1 rfl;have hrk:¬restS M M.kb:=fun h_=>(hnr _ h_).2.1 rfl;have hrg:∀q,restS M q→¬own M.ga q:=fun q h_=>(hnr q h_).2.2;refine calls_run (n:=42) Tryz.func18 rfl rfl rfl ?_;refine jG2 ?_;by_cases hlv:(M.made&& !M.done)=true
 ·by_cases htk:M.began+1000≤now
  ·refine jG ?_
   refine jR<|jC (live_ m M _ ⟨kblk hb (kT_get hget),(fun e_=>by rw[hget]at e_;cases e_),fun _=>hk,hgt,hr,hnk,hng,hnkg,fun q_ h_=>⟨fun e_=>hrb (e_▸h_),fun e_=>hrk (e_▸h_),hrg q_ h_⟩⟩ hok0) ?_;rintro _ aL ⟨rfl,a5⟩;have K0:=(a5:Ext w _).to (S:=(mqS m M));refine jV (litF (x_not rfl) (by simp[hlv])) ?_;replace hb:=hb.ext a5;refine jG ?_;refine jT<|jO (x_add rfl rfl (by omega) (by omega)) ?_;refine jT<|jO (litF (x_ltI rfl rfl) (by first|exact decide_eq_true (by omega)|exact decide_eq_false (by omega))) ?_;refine jV (x_orF rfl rfl rfl) ?_;refine jG ?_;refine Run.condF rfl ?_;refine jG ?_;refine jR<|jS hb ?_;intro aM hb aa;replace K0:=K0.tf aa ((Or.inl rfl));refine Jct ?_;replace hk:=(hk.ext a5).kp aa;replace hgt:=(hgt.ext a5).keepO aa (noOne hng);replace hr:=(hr.ext a5).keepO aa (noOne hrb);by_cases han:M.answered=true
   ·refine jG4 ?_
    refine jV (litF (x_not rfl) (by simp[han])) ?_;refine jG ?_;refine Run.condF rfl ?_;refine jG ?_;refine jR<|St1.callI (vals:=[jp M.kb,jp m]) (fun w=>by kernel_rfl) en154.h rfl rfl (glast_ m (mqD M M.answered M.status) _ (mqD_atG hb hget hk hgt hr hnk hng hnkg hrb hrk hrg) (mqD_ok hok0) hget hP) ?_;rintro _ aN ⟨ag,aO,af,rfl,ah,ai,aj,a1,a2,ak,a6⟩;have al:=notNew a1 hb.lt;have am:=notNew a1 hk.lt;have an:=apartNew a1 hgt.own_lt;have ao:=apartNew a1 hr.own_lt;have ap:=geTr K0.size a1;have aq:=notNew a2 hb.lt;have ar:=notNew a2 hk.lt;have au:=apartNew a2 hgt.own_lt;have av:=apartNew a2 hr.own_lt;have aw:=geTr K0.size a2;clear a1 a2;refine jG ?_;refine jK Tryz.func18 ?_;obtain⟨e1,e2,e3⟩:=tick_a (Q:=M.pv) (now:=now) (tickOk_iff.2 ⟨hlv,htk⟩) han;rw[e1,e2,e3];have hqd:qD M.pv M.pv.status=(mqD M M.answered M.status).pv:=by show qD M.pv M.status=PM.mk _ _ _ _ _ _ _ _ _ M.answered _ _ _ _ _ _ _;rw[han]
    rw[hqd];replace hb:=hb.ext a6;replace hk:=hk.ext a6;replace hgt:=hgt.ext a6;replace hr:=hr.ext a6;replace K0:=K0.ext a6
    have hA1:∀q_,mqS m M q_→¬own ag q_:=by
     rintro q_ (h_|h_|h_|h_)
     ·rw[h_];exact al
     ·rw[h_];exact am
     ·exact(fun q_ h1 h2=>an q_ h2 h1) q_ h_
     ·exact(fun q_ h1 h2=>ao q_ h2 h1) q_ h_
    have hA2:∀q_,mqS m M q_→¬mgsS af q_:=by
     rintro q_ (h_|h_|h_|h_)
     ·rw[h_];exact aq
     ·rw[h_];exact ar
     ·exact(fun q_ h1 h2=>au q_ h2 h1) q_ h_
     ·exact(fun q_ h1 h2=>av q_ h2 h1) q_ h_
    exact⟨_,rfl,_,af,_,_,_,rfl,⟨(mqD M M.answered M.status),rfl,rfl,(mqD_atG hb hget hk hgt hr hnk hng hnkg hrb hrk hrg),mqD_ok hok0⟩,ah,ai,aj,.inl ⟨rfl,rfl⟩,(fun q_ h_=> .inl h_),ap,aw,hA1,hA2,ak,K0⟩
   ·refine jG4 ?_
    refine jV (litT (x_not rfl) (by simp[han])) ?_;refine jG ?_;refine jT1 ?_;refine jG ?_;refine jR<|jS hb ?_;intro aP hb ab;replace K0:=K0.tf ab ((Or.inl rfl));refine jG ?_;refine jR<|jS hb ?_;intro aQ hb ac;replace K0:=K0.tf ac ((Or.inl rfl));refine jG ?_;refine jV (x_build (cells:=#[.slice (none) (0) (0),.slice (none) (0) (0),.slice (none) (0) (0)]) (by kernel_rfl)) ?_;replace hk:=(hk.kp ab).kp ac;replace hgt:=(hgt.keepO ab (noOne hng)).keepO ac (noOne hng);replace hr:=(hr.keepO ab (noOne hrb)).keepO ac (noOne hrb);refine jR<|jC (toldN_ m (mqD M true 504) 504 nilV nilS _ (mqD_atG hb hget hk hgt hr hnk hng hnkg hrb hrk hrg) (mqD_ok hok0) nil_R.cart (by decide)) ?_;rintro _ aR ⟨ae,rfl,ad,ax,a3,a7⟩;have ay:=notNew a3 hb.lt;have az:=notNew a3 hk.lt;have aA:=apartNew a3 hgt.own_lt;have aB:=apartNew a3 hr.own_lt;have aC:=geTr K0.size a3;clear a3;refine jR<|St1.buildSlice ([(⟨M.id,504,(mkC nilV ae).cart⟩:ToldC)]:List ToldC) Tryz.underlying58 ty63 rfl rfl (by first|decide|(simp[Enc.size])) ?_;intro aD aS a0 aE a4;replace hb:=hb.ext a7;have aF:=notNew (ge_new a0) hb.lt;replace hk:=hk.ext a7;have aG:=notNew (ge_new a0) hk.lt;replace hgt:=hgt.ext a7;have aH:=apartNew (ge_new a0) hgt.own_lt;replace hr:=hr.ext a7;have aI:=apartNew (ge_new a0) hr.own_lt;have aJ:=apartNew (ge_new a0) ad.own_lt;replace K0:=K0.ext a7;have aK:=geTr K0.size (ge_new a0);clear a0;refine jG ?_;refine jK Tryz.func18 ?_;obtain⟨e1,e2,e3⟩:=tick_n (Q:=M.pv) (now:=now) (tickOk_iff.2 ⟨hlv,htk⟩) (show M.answered=false by simpa using han);rw[e1,e2,e3];replace hb:=hb.ext a4;replace hk:=hk.ext a4;replace hgt:=hgt.ext a4;replace hr:=hr.ext a4;replace ad:=ad.ext a4;replace K0:=K0.ext a4
    have hA1:∀q_,mqS m M q_→¬own (some ⟨aD,0,none⟩) q_:=by
     rintro q_ (h_|h_|h_|h_)
     ·rw[h_];exact aF
     ·rw[h_];exact aG
     ·exact(fun q_ h1 h2=>aH q_ h2 h1) q_ h_
     ·exact(fun q_ h1 h2=>aI q_ h2 h1) q_ h_
    have hA2:∀q_,mqS m M q_→¬cartS ae q_:=by
     rintro q_ (h_|h_|h_|h_)
     ·rw[h_];exact ay
     ·rw[h_];exact az
     ·exact(fun q_ h1 h2=>aA q_ h2 h1) q_ h_
     ·exact(fun q_ h1 h2=>aB q_ h2 h1) q_ h_
    exact⟨_,rfl,StepAt.plain ⟨(mqD M true 504),rfl,rfl,(mqD_atG hb hget hk hgt hr hnk hng hnkg hrb hrk hrg),mqD_ok hok0⟩ (.inr ⟨by decide,_,_,ae,rfl,aE,ad,ax,aK,aC,(fun q_ h1 h2=>aJ q_ h2 h1),hA1,hA2⟩) (fun q_ h_=> .inl h_) K0⟩
  ·refine jG ?_
   refine jR<|jC (live_ m M _ ⟨kblk hb (kT_get hget),(fun e_=>by rw[hget]at e_;cases e_),fun _=>hk,hgt,hr,hnk,hng,hnkg,fun q_ h_=>⟨fun e_=>hrb (e_▸h_),fun e_=>hrk (e_▸h_),hrg q_ h_⟩⟩ hok0) ?_;rintro _ aT ⟨rfl,a8⟩;have K0:=(a8:Ext w _).to (S:=(mqS m M));refine jV (litF (x_not rfl) (by simp[hlv])) ?_;replace hb:=hb.ext a8;refine jG ?_;refine jT<|jO (x_add rfl rfl (by omega) (by omega)) ?_;refine jT<|jO (litT (x_ltI rfl rfl) (by first|exact decide_eq_true (by omega)|exact decide_eq_false (by omega))) ?_;refine jV (x_orF rfl rfl rfl) ?_;refine jG ?_;refine jT1 ?_;refine jG ?_;refine jK Tryz.func18 ?_;obtain⟨e1,e2,e3⟩:=tick_no (Q:=M.pv) (now:=now) (fun h_=>htk (tickOk_iff.1 h_).2);rw[e1,e2,e3];replace hk:=hk.ext a8;replace hgt:=hgt.ext a8;replace hr:=hr.ext a8;exact⟨_,rfl,StepAt.plain ⟨M,rfl,rfl,⟨kblk hb (kT_get hget),(fun e_=>by rw[hget]at e_;cases e_),fun _=>hk,hgt,hr,hnk,hng,hnkg,fun q_ h_=>⟨fun e_=>hrb (e_▸h_),fun e_=>hrk (e_▸h_),hrg q_ h_⟩⟩,hok0⟩ (.inl ⟨rfl,rfl⟩) (fun q_ h_=> .inl h_) K0⟩
 ·refine jG ?_
  refine jR<|jC (live_ m M _ ⟨kblk hb (kT_get hget),(fun e_=>by rw[hget]at e_;cases e_),fun _=>hk,hgt,hr,hnk,hng,hnkg,fun q_ h_=>⟨fun e_=>hrb (e_▸h_),fun e_=>hrk (e_▸h_),hrg q_ h_⟩⟩ hok0) ?_;rintro _ aU ⟨rfl,a9⟩;have K0:=(a9:Ext w _).to (S:=(mqS m M));refine jV (litT (x_not rfl) (by simp[hlv])) ?_;refine jG ?_;refine jV (x_or (b:=true) (e:=false) rfl rfl rfl) ?_;refine jG ?_;refine jT1 ?_;refine jG ?_;refine jK Tryz.func18 ?_;obtain⟨e1,e2,e3⟩:=tick_no (Q:=M.pv) (now:=now) (fun h_=>hlv (tickOk_iff.1 h_).1);rw[e1,e2,e3];replace hb:=hb.ext a9;replace hk:=hk.ext a9;replace hgt:=hgt.ext a9;replace hr:=hr.ext a9;exact⟨_,rfl,StepAt.plain ⟨M,rfl,rfl,⟨kblk hb (kT_get hget),(fun e_=>by rw[hget]at e_;cases e_),fun _=>hk,hgt,hr,hnk,hng,hnkg,fun q_ h_=>⟨fun e_=>hrb (e_▸h_),fun e_=>hrk (e_▸h_),hrg q_ h_⟩⟩,hok0⟩ (.inl ⟨rfl,rfl⟩) (fun q_ h_=> .inl h_) K0⟩
theorem onA_ (m : Nat) (F : Nat → Prop) (Q : PM) (v : MV) (s : Six) (w : World) (hM : MachAt w m F Q) (hI : MInv Q) (hR : SixR w s v) (hv : VOk v) (hE : EntB v.ent) (hcap : v.ent.length ≤ s.ec) :
    Calls Tryz.prog 11 #[jp m, .agg #[.int .i64 (((mkC v s)).kind), .int .i64 (((mkC v s)).frm), .int .i64 (((mkC v s)).to), .int .i64 (((mkC v s)).req), .string (((mkC v s)).key), .slice (s.ea) (v.ent.length) (s.ec), .slice (s.ma) (v.mrk.length) (s.mc), .slice (s.ca) (v.cl.length) (s.cc), .int .i64 (((mkC v s)).owner), .int .i64 (((mkC v s)).part), .int .i64 (((mkC v s)).n), .int .i64 ((((mkC v s)).ring).parts), .int .i64 ((((mkC v s)).ring).copies), .int .i64 ((((mkC v s)).ring).spots), .slice (s.ba) (v.mem.length) (s.bc), .slice (s.pa) (v.pe.length) (s.pc), .slice (s.sa) (v.su.length) (s.sc)]] w (Ret fun r w' => StepAt w w' m F (onN Q v) (onMs Q v) Q.id (onSt Q v) (onVl Q v) r) := by
  obtain ⟨M, rfl, rfl, h, ho⟩ := hM
  cases hp : M.put with
  | false => exact ong_ m M v s w h ho hp hI.ok (hI.cx hp) hR hv hE hcap
  | true =>
    refine (onp_ m M v s w h ho hp hI.ok hR hv hE hcap).mono ?_
    rintro e_ w_ ⟨r_, h1_, F', t0, rfl, (⟨hno, hM, rfl⟩ | ⟨hy, hM, hT⟩), hF, K⟩
    · have hn : ¬ onOk M.pv v = true := by rw [hno]; decide
      obtain ⟨e1, e2, e3⟩ := onN_no hn
      exact ⟨_, h1_, by rw [e1, e2, e3]; exact StepAt.plain hM (.inl ⟨rfl, rfl⟩) hF K⟩
    · obtain ⟨e1, e2, e3, e4⟩ := onN_put hy hp
      exact ⟨_, h1_, by rw [e1, e2, e3, e4]; exact StepAt.plain hM hT hF K⟩
theorem tickA_ (m:Nat)(F:Nat→Prop)(Q:PM)(now:Int)(w:World)(hM:MachAt w m F Q)(hI:MInv Q):
  Calls Tryz.prog 18 #[jp m,.int .i64 now] w (Ret fun r w'=>StepAt w w' m F (tickN Q now) (tickMs Q now) Q.id (tickSt Q now) nilV r):=by
 obtain⟨M,rfl,rfl,h,ho⟩:=hM
 cases hp:M.put with
 |false=>exact tickg_ m M now w h ho hp hI.ok
 |true=>exact tickp_ m M now w h ho hp hI.ok
end Go.Proofs.YtocgdeefgohdhaaGreat
