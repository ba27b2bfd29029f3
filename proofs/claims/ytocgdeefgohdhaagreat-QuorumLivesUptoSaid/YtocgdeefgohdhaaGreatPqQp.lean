/-
  Qp
-/
import Derived.Test.YtocgdeefgohdhaaGreatRows
import Derived.Test.YtocgdeefgohdhaaGreatPqQo
import Derived.Test.YtocgdeefgohdhaaGreatPqI
set_option linter.all false
set_option maxRecDepth 100000
set_option maxHeartbeats 4000000
namespace Go.Proofs.YtocgdeefgohdhaaGreat
open Go.Proofs.Tryz
attribute [local irreducible] RD RS AD RL RA RT BH Al
def DY (Q:PM)(now:Int):Bool:=Q.made&& !Q.done&&decide (Q.began+1000≤now)
abbrev qD (Q:PM)(st:Int):PM:=⟨Q.self,Q.req,Q.need,Q.began,Q.id,Q.key,Q.seen,Q.targets,Q.got,true,true,Q.made,st,Q.put,Q.cart,Q.fine,Q.bad⟩
open Classical in
noncomputable def Dt (Q:PM)(now:Int):PM:=if DY Q now=true then qD Q (if Q.answered=true then Q.status else 504)else Q
open Classical in
noncomputable def DC (Q:PM)(now:Int):List MV:=if DY Q now=true∧Q.answered=true then D2 (qD Q Q.status)else[]
open Classical in
noncomputable def BM (Q:PM)(now:Int):Int:=if DY Q now=true∧Q.answered=false then 504 else 0
section
variable {Q :PM}{now:Int}
theorem Fh (h:¬DY Q now=true):Dt Q now=Q∧DC Q now=[]∧BM Q now=0:=⟨by rw[Dt,if_neg h],by rw[DC,if_neg (fun e=>h e.1)],by rw[BM,if_neg (fun e=>h e.1)]⟩
theorem Kc (h:DY Q now=true)(ha:Q.answered=true):Dt Q now=qD Q Q.status∧DC Q now=D2 (qD Q Q.status)∧BM Q now=0:=⟨by rw[Dt,if_pos h,if_pos ha],by rw[DC,if_pos ⟨h,ha⟩],by rw[BM,if_neg (fun e=>by rw[ha]at e;exact absurd e.2 Zd)]⟩
theorem Kd (h:DY Q now=true)(ha:Q.answered=false):Dt Q now=qD Q 504∧DC Q now=[]∧BM Q now=504:=⟨by rw[Dt,if_pos h,if_neg (by rw[ha];decide)],by rw[DC,if_neg (fun e=>by rw[ha]at e;exact absurd e.2 Zd)],by rw[BM,if_pos ⟨h,ha⟩]⟩
theorem tickOk_iff :DY Q now=true↔(Q.made&& !Q.done)=true∧Q.began+1000≤now:=by unfold DY;simp only[Bool.and_eq_true,decide_eq_true_eq]
theorem Fs.tick (h:Fs Q):Fs (Dt Q now):=by
 by_cases hk:DY Q now=true
 ·rw[Dt,if_pos hk];exact⟨h.ok,h.cx⟩
 ·rw[(Fh hk).1];exact h
end
section
variable {w :World}{m:Nat}{M:Mq}{an:Bool}{st:Int}
abbrev Me (M:Mq)(an:Bool)(st:Int):Mq:=⟨M.self,M.req,M.need,M.began,M.id,M.knd,M.key,M.item,M.qty,M.price,M.seen,M.ss,M.ta,M.tc,M.targets,M.ga,M.gc,M.got,an,true,M.made,st,M.put,M.kb,M.cart,M.cs,M.fine,M.bad⟩
theorem Ke (hb:AI w m ((Me M an st).cellsK 134) 99)(hput:M.put=true)(hk:AI w M.kb (c3 M.cart M.cs) 136)(hg:Ag w 48 M.ga M.gc (M.got.map Mg.c))(hr:Cs w M)(n1:m≠M.kb)(g1:¬own M.ga m)(g2:¬own M.ga M.kb)(r1:¬A4 M m)(r2:¬A4 M M.kb)(r3:∀q,A4 M q→¬own M.ga q):Cv w m (Me M an st):=
 CO hb hput hk hg ⟨hr.tg,hr.seen,hr.cart,hr.gots⟩ n1 g1 g2 r1 r2 r3
theorem HR (hb:AI w m ((Me M an st).cellsK 141) 99)(hget:M.put=false)(hk:AI w M.kb (c3 M.cart M.cs++[.int .i64 M.fine,.bool M.bad]) 143)(hg:Ag w 48 M.ga M.gc (M.got.map Mg.c))(hr:Cs w M)(n1:m≠M.kb)(g1:¬own M.ga m)(g2:¬own M.ga M.kb)(r1:¬A4 M m)(r2:¬A4 M M.kb)(r3:∀q,A4 M q→¬own M.ga q):Cv w m (Me M an st):=
 ⟨EF hb (by rw[hget]),(fun e=>by rw[hget]at e;cases e),fun _=>hk,hg,⟨hr.tg,hr.seen,hr.cart,hr.gots⟩,n1,g1,g2,fun q hq=>⟨fun e=>r1 (e▸hq),fun e=>r2 (e▸hq),r3 q hq⟩⟩
theorem Gg (h:Ds M):Ds (Me M an st):=⟨h.need,h.tc,h.tl,h.gl,h.seen,h.cart,h.gots,h.fine,h.began⟩
end
attribute [local irreducible] X
theorem R6 (m:Nat)(M:Mq)(now:Int)(w:World)(hM:Cv w m M)(hok:Ds M)(hput:M.put=true)(hP:IV M.pv):
  Calls prog 18 #[jp m,.int .i64 now] w (AU (fun r w'=>BX w w' m (Dx m M) (Dt M.pv now) (DC M.pv now) M.id (BM M.pv now) nilV r)):=by
 have hM0:=hM;have hok0:=hok;obtain⟨hb,hkp,hkg,hgt,hr,hnk,hng,hnkg,hnr⟩:=hM;obtain⟨⟨hnd1,hnd2⟩,htc,htl,hgl,hsok,hcok,hgok,hfine,hbeg⟩:=hok;have hgm:(M.got.map Mg.c).length=M.got.length:=List.length_map ..;have hk:=hkp hput;replace hb:=Ma hb (Ga hput);have hrb:¬A4 M m:=fun h_=>(hnr m h_).1 rfl;have hrk:¬A4 M M.kb:=fun h_=>(hnr _ h_).2.1 rfl;have hrg:∀q,A4 M q→¬own M.ga q:=fun q h_=>(hnr q h_).2.2;refine Af (n:=42) func18 rfl rfl rfl ?_;refine CU ?_;by_cases hlv:(M.made&& !M.done)=true
 ·by_cases htk:M.began+1000≤now
  ·refine jG ?_
   refine jR<|jC (DQ m M _ (CO hb hput hk hgt hr hnk hng hnkg hrb hrk hrg) hok0) ?_;rintro _ ar ⟨rfl,a3⟩;have K0:=(a3:As w _).to (S:=(Dx m M));refine jV (AR (AS rfl) (by simp[hlv])) ?_;replace hb:=hb.ext a3;refine jG ?_;refine jT<|jO (Aq rfl rfl Zo Zo) ?_;refine jT<|jO (AR (DG rfl rfl) (by first|exact decide_eq_true Zo|exact decide_eq_false Zo)) ?_;refine jV (Bi rfl rfl rfl) ?_;refine jG ?_;refine Al.condF rfl ?_;refine jG ?_;refine jR<|jS hb ?_;intro au hb a8;replace K0:=K0.tf a8 (Or.inl rfl);refine BP ?_;replace hk:=(hk.ext a3).kp a8;replace hgt:=(hgt.ext a3).keepO a8 (Aa hng);replace hr:=(hr.ext a3).keepO a8 (Aa hrb);by_cases han:M.answered=true
   ·refine EB ?_
    refine jV (AR (AS rfl) (by simp[han])) ?_;refine jG ?_;refine Al.condF rfl ?_;refine jG ?_;refine jR<|AD.callI (vals:=[jp M.kb,jp m]) (fun w=>by kernel_rfl) en151.h rfl rfl (L3 (some ⟨M.kb,0,none⟩) m _) ?_;rintro _ av ⟨rfl,a4⟩;refine jG ?_;refine jK func18 ?_;obtain⟨e1,e2,e3⟩:=Kc (Q:=M.pv) (now:=now) (tickOk_iff.2 ⟨hlv,htk⟩) han;rw[e1,e2,e3];have hqd:qD M.pv M.pv.status=(Me M M.answered M.status).pv:=by show qD M.pv M.status=PM.mk _ _ _ _ _ _ _ _ _ M.answered _ _ _ _ _ _ _;rw[han]
    rw[hqd];rw[FT (Q:=(Me M M.answered M.status).pv) hput];replace hb:=hb.ext a4;replace hk:=hk.ext a4;replace hgt:=hgt.ext a4;replace hr:=hr.ext a4;replace K0:=K0.ext a4;exact⟨_,rfl,BX.plain ⟨(Me M M.answered M.status),rfl,rfl,(Ke hb hput hk hgt hr hnk hng hnkg hrb hrk hrg),Gg hok0⟩ (.inl ⟨rfl,rfl⟩) (fun q_ h_=> .inl h_) K0⟩
   ·refine EB ?_
    refine jV (A3 (AS rfl) (by simp[han])) ?_;refine jG ?_;refine CE ?_;refine jG ?_;refine jR<|jS hb ?_;intro aw hb a9;replace K0:=K0.tf a9 (Or.inl rfl);refine jG ?_;refine jR<|jS hb ?_;intro ax hb aa;replace K0:=K0.tf aa (Or.inl rfl);refine jG ?_;refine jV (Ar (cells:=#[.slice none 0 0,.slice none 0 0,.slice none 0 0]) Zk) ?_;replace hk:=(hk.kp a9).kp aa;replace hgt:=(hgt.keepO a9 (Aa hng)).keepO aa (Aa hng);replace hr:=(hr.keepO a9 (Aa hrb)).keepO aa (Aa hrb);refine jR<|jC (Da m (Me M true 504) 504 nilV nilS _ (Ke hb hput hk hgt hr hnk hng hnkg hrb hrk hrg) (Gg hok0) nil_R.cart Zd) ?_;rintro _ ay ⟨ac,rfl,ab,ad,a1,a5⟩;have ae:=Ae a1 hb.lt;have af:=Ae a1 hk.lt;have ag:=Ab a1 hgt.own_lt;have ah:=Ab a1 hr.own_lt;have ai:=Az K0.size a1;clear a1;refine jR<|AD.buildSlice ([(⟨M.id,504,(An nilV ac).cart⟩:AM)]:List AM) underlying58 ty63 rfl rfl Ze ?_;intro aj az a0 ak a2;replace hb:=hb.ext a5;have al:=Ae (Av a0) hb.lt;replace hk:=hk.ext a5;have am:=Ae (Av a0) hk.lt;replace hgt:=hgt.ext a5;have an:=Ab (Av a0) hgt.own_lt;replace hr:=hr.ext a5;have ao:=Ab (Av a0) hr.own_lt;have ap:=Ab (Av a0) ab.own_lt;replace K0:=K0.ext a5;have aq:=Az K0.size (Av a0);clear a0;refine jG ?_;refine jK func18 ?_;obtain⟨e1,e2,e3⟩:=Kd (Q:=M.pv) (now:=now) (tickOk_iff.2 ⟨hlv,htk⟩) (show M.answered=false by simpa using han);rw[e1,e2,e3];replace hb:=hb.ext a2;replace hk:=hk.ext a2;replace hgt:=hgt.ext a2;replace hr:=hr.ext a2;replace ab:=ab.ext a2;replace K0:=K0.ext a2
    have hA1:∀q_,Dx m M q_→¬own (some ⟨aj,0,none⟩) q_:=by
     rintro q_ (h_|h_|h_|h_)
     ·rw[h_];exact al
     ·rw[h_];exact am
     ·exact(Zf an) q_ h_
     ·exact(Zf ao) q_ h_
    have hA2:∀q_,Dx m M q_→¬Aw ac q_:=by
     rintro q_ (h_|h_|h_|h_)
     ·rw[h_];exact ae
     ·rw[h_];exact af
     ·exact(Zf ag) q_ h_
     ·exact(Zf ah) q_ h_
    exact⟨_,rfl,BX.plain ⟨(Me M true 504),rfl,rfl,(Ke hb hput hk hgt hr hnk hng hnkg hrb hrk hrg),Gg hok0⟩ (.inr ⟨by decide,_,_,ac,rfl,ak,ab,ad,aq,ai,(Zf ap),hA1,hA2⟩) (fun q_ h_=> .inl h_) K0⟩
  ·refine jG ?_
   refine jR<|jC (DQ m M _ (CO hb hput hk hgt hr hnk hng hnkg hrb hrk hrg) hok0) ?_;rintro _ aA ⟨rfl,a6⟩;have K0:=(a6:As w _).to (S:=(Dx m M));refine jV (AR (AS rfl) (by simp[hlv])) ?_;replace hb:=hb.ext a6;refine jG ?_;refine jT<|jO (Aq rfl rfl Zo Zo) ?_;refine jT<|jO (A3 (DG rfl rfl) (by first|exact decide_eq_true Zo|exact decide_eq_false Zo)) ?_;refine jV (Bi rfl rfl rfl) ?_;refine jG ?_;refine CE ?_;refine jG ?_;refine jK func18 ?_;obtain⟨e1,e2,e3⟩:=Fh (Q:=M.pv) (now:=now) (fun h_=>htk (tickOk_iff.1 h_).2);rw[e1,e2,e3];replace hk:=hk.ext a6;replace hgt:=hgt.ext a6;replace hr:=hr.ext a6;exact⟨_,rfl,BX.plain ⟨M,rfl,rfl,(CO hb hput hk hgt hr hnk hng hnkg hrb hrk hrg),hok0⟩ (.inl ⟨rfl,rfl⟩) (fun q_ h_=> .inl h_) K0⟩
 ·refine jG ?_
  refine jR<|jC (DQ m M _ (CO hb hput hk hgt hr hnk hng hnkg hrb hrk hrg) hok0) ?_;rintro _ aB ⟨rfl,a7⟩;have K0:=(a7:As w _).to (S:=(Dx m M));refine jV (A3 (AS rfl) (by simp[hlv])) ?_;refine jG ?_;refine jV (Ba (b:=true) (e:=false) rfl rfl rfl) ?_;refine jG ?_;refine CE ?_;refine jG ?_;refine jK func18 ?_;obtain⟨e1,e2,e3⟩:=Fh (Q:=M.pv) (now:=now) (fun h_=>hlv (tickOk_iff.1 h_).1);rw[e1,e2,e3];replace hb:=hb.ext a7;replace hk:=hk.ext a7;replace hgt:=hgt.ext a7;replace hr:=hr.ext a7;exact⟨_,rfl,BX.plain ⟨M,rfl,rfl,(CO hb hput hk hgt hr hnk hng hnkg hrb hrk hrg),hok0⟩ (.inl ⟨rfl,rfl⟩) (fun q_ h_=> .inl h_) K0⟩
theorem R7 (m:Nat)(M:Mq)(now:Int)(w:World)(hM:Cv w m M)(hok:Ds M)(hget:M.put=false)(hP:IV M.pv):
  Calls prog 18 #[jp m,.int .i64 now] w (AU (fun r w'=>BX w w' m (Dx m M) (Dt M.pv now) (DC M.pv now) M.id (BM M.pv now) nilV r)):=by
 have hM0:=hM;have hok0:=hok;obtain⟨hb,hkp,hkg,hgt,hr,hnk,hng,hnkg,hnr⟩:=hM;obtain⟨⟨hnd1,hnd2⟩,htc,htl,hgl,hsok,hcok,hgok,hfine,hbeg⟩:=hok;have hgm:(M.got.map Mg.c).length=M.got.length:=List.length_map ..;have hk:=hkg hget;replace hb:=Ma hb (B4 hget);have hrb:¬A4 M m:=fun h_=>(hnr m h_).1 rfl;have hrk:¬A4 M M.kb:=fun h_=>(hnr _ h_).2.1 rfl;have hrg:∀q,A4 M q→¬own M.ga q:=fun q h_=>(hnr q h_).2.2;refine Af (n:=42) func18 rfl rfl rfl ?_;refine CU ?_;by_cases hlv:(M.made&& !M.done)=true
 ·by_cases htk:M.began+1000≤now
  ·refine jG ?_
   refine jR<|jC (DQ m M _ ⟨EF hb (B4 hget),(fun e_=>by rw[hget]at e_;cases e_),fun _=>hk,hgt,hr,hnk,hng,hnkg,fun q_ h_=>⟨fun e_=>hrb (e_▸h_),fun e_=>hrk (e_▸h_),hrg q_ h_⟩⟩ hok0) ?_;rintro _ aL ⟨rfl,a5⟩;have K0:=(a5:As w _).to (S:=(Dx m M));refine jV (AR (AS rfl) (by simp[hlv])) ?_;replace hb:=hb.ext a5;refine jG ?_;refine jT<|jO (Aq rfl rfl Zo Zo) ?_;refine jT<|jO (AR (DG rfl rfl) (by first|exact decide_eq_true Zo|exact decide_eq_false Zo)) ?_;refine jV (Bi rfl rfl rfl) ?_;refine jG ?_;refine Al.condF rfl ?_;refine jG ?_;refine jR<|jS hb ?_;intro aM hb aa;replace K0:=K0.tf aa (Or.inl rfl);refine BP ?_;replace hk:=(hk.ext a5).kp aa;replace hgt:=(hgt.ext a5).keepO aa (Aa hng);replace hr:=(hr.ext a5).keepO aa (Aa hrb);by_cases han:M.answered=true
   ·refine EB ?_
    refine jV (AR (AS rfl) (by simp[han])) ?_;refine jG ?_;refine Al.condF rfl ?_;refine jG ?_;refine jR<|AD.callI (vals:=[jp M.kb,jp m]) (fun w=>by kernel_rfl) en154.h rfl rfl (Iz m (Me M M.answered M.status) _ (HR hb hget hk hgt hr hnk hng hnkg hrb hrk hrg) (Gg hok0) hget hP) ?_;rintro _ aN ⟨ag,aO,af,rfl,ah,ai,aj,a1,a2,ak,a6⟩;have al:=Ae a1 hb.lt;have am:=Ae a1 hk.lt;have an:=Ab a1 hgt.own_lt;have ao:=Ab a1 hr.own_lt;have ap:=Az K0.size a1;have aq:=Ae a2 hb.lt;have ar:=Ae a2 hk.lt;have au:=Ab a2 hgt.own_lt;have av:=Ab a2 hr.own_lt;have aw:=Az K0.size a2;clear a1 a2;refine jG ?_;refine jK func18 ?_;obtain⟨e1,e2,e3⟩:=Kc (Q:=M.pv) (now:=now) (tickOk_iff.2 ⟨hlv,htk⟩) han;rw[e1,e2,e3];have hqd:qD M.pv M.pv.status=(Me M M.answered M.status).pv:=by show qD M.pv M.status=PM.mk _ _ _ _ _ _ _ _ _ M.answered _ _ _ _ _ _ _;rw[han]
    rw[hqd];replace hb:=hb.ext a6;replace hk:=hk.ext a6;replace hgt:=hgt.ext a6;replace hr:=hr.ext a6;replace K0:=K0.ext a6
    have hA1:∀q_,Dx m M q_→¬own ag q_:=by
     rintro q_ (h_|h_|h_|h_)
     ·rw[h_];exact al
     ·rw[h_];exact am
     ·exact(Zf an) q_ h_
     ·exact(Zf ao) q_ h_
    have hA2:∀q_,Dx m M q_→¬AA af q_:=by
     rintro q_ (h_|h_|h_|h_)
     ·rw[h_];exact aq
     ·rw[h_];exact ar
     ·exact(Zf au) q_ h_
     ·exact(Zf av) q_ h_
    exact⟨_,rfl,_,af,_,_,_,rfl,⟨(Me M M.answered M.status),rfl,rfl,(HR hb hget hk hgt hr hnk hng hnkg hrb hrk hrg),Gg hok0⟩,ah,ai,aj,.inl ⟨rfl,rfl⟩,(fun q_ h_=> .inl h_),ap,aw,hA1,hA2,ak,K0⟩
   ·refine EB ?_
    refine jV (A3 (AS rfl) (by simp[han])) ?_;refine jG ?_;refine CE ?_;refine jG ?_;refine jR<|jS hb ?_;intro aP hb ab;replace K0:=K0.tf ab (Or.inl rfl);refine jG ?_;refine jR<|jS hb ?_;intro aQ hb ac;replace K0:=K0.tf ac (Or.inl rfl);refine jG ?_;refine jV (Ar (cells:=#[.slice none 0 0,.slice none 0 0,.slice none 0 0]) Zk) ?_;replace hk:=(hk.kp ab).kp ac;replace hgt:=(hgt.keepO ab (Aa hng)).keepO ac (Aa hng);replace hr:=(hr.keepO ab (Aa hrb)).keepO ac (Aa hrb);refine jR<|jC (Da m (Me M true 504) 504 nilV nilS _ (HR hb hget hk hgt hr hnk hng hnkg hrb hrk hrg) (Gg hok0) nil_R.cart Zd) ?_;rintro _ aR ⟨ae,rfl,ad,ax,a3,a7⟩;have ay:=Ae a3 hb.lt;have az:=Ae a3 hk.lt;have aA:=Ab a3 hgt.own_lt;have aB:=Ab a3 hr.own_lt;have aC:=Az K0.size a3;clear a3;refine jR<|AD.buildSlice ([(⟨M.id,504,(An nilV ae).cart⟩:AM)]:List AM) underlying58 ty63 rfl rfl Ze ?_;intro aD aS a0 aE a4;replace hb:=hb.ext a7;have aF:=Ae (Av a0) hb.lt;replace hk:=hk.ext a7;have aG:=Ae (Av a0) hk.lt;replace hgt:=hgt.ext a7;have aH:=Ab (Av a0) hgt.own_lt;replace hr:=hr.ext a7;have aI:=Ab (Av a0) hr.own_lt;have aJ:=Ab (Av a0) ad.own_lt;replace K0:=K0.ext a7;have aK:=Az K0.size (Av a0);clear a0;refine jG ?_;refine jK func18 ?_;obtain⟨e1,e2,e3⟩:=Kd (Q:=M.pv) (now:=now) (tickOk_iff.2 ⟨hlv,htk⟩) (show M.answered=false by simpa using han);rw[e1,e2,e3];replace hb:=hb.ext a4;replace hk:=hk.ext a4;replace hgt:=hgt.ext a4;replace hr:=hr.ext a4;replace ad:=ad.ext a4;replace K0:=K0.ext a4
    have hA1:∀q_,Dx m M q_→¬own (some ⟨aD,0,none⟩) q_:=by
     rintro q_ (h_|h_|h_|h_)
     ·rw[h_];exact aF
     ·rw[h_];exact aG
     ·exact(Zf aH) q_ h_
     ·exact(Zf aI) q_ h_
    have hA2:∀q_,Dx m M q_→¬Aw ae q_:=by
     rintro q_ (h_|h_|h_|h_)
     ·rw[h_];exact ay
     ·rw[h_];exact az
     ·exact(Zf aA) q_ h_
     ·exact(Zf aB) q_ h_
    exact⟨_,rfl,BX.plain ⟨(Me M true 504),rfl,rfl,(HR hb hget hk hgt hr hnk hng hnkg hrb hrk hrg),Gg hok0⟩ (.inr ⟨by decide,_,_,ae,rfl,aE,ad,ax,aK,aC,(Zf aJ),hA1,hA2⟩) (fun q_ h_=> .inl h_) K0⟩
  ·refine jG ?_
   refine jR<|jC (DQ m M _ ⟨EF hb (B4 hget),(fun e_=>by rw[hget]at e_;cases e_),fun _=>hk,hgt,hr,hnk,hng,hnkg,fun q_ h_=>⟨fun e_=>hrb (e_▸h_),fun e_=>hrk (e_▸h_),hrg q_ h_⟩⟩ hok0) ?_;rintro _ aT ⟨rfl,a8⟩;have K0:=(a8:As w _).to (S:=(Dx m M));refine jV (AR (AS rfl) (by simp[hlv])) ?_;replace hb:=hb.ext a8;refine jG ?_;refine jT<|jO (Aq rfl rfl Zo Zo) ?_;refine jT<|jO (A3 (DG rfl rfl) (by first|exact decide_eq_true Zo|exact decide_eq_false Zo)) ?_;refine jV (Bi rfl rfl rfl) ?_;refine jG ?_;refine CE ?_;refine jG ?_;refine jK func18 ?_;obtain⟨e1,e2,e3⟩:=Fh (Q:=M.pv) (now:=now) (fun h_=>htk (tickOk_iff.1 h_).2);rw[e1,e2,e3];replace hk:=hk.ext a8;replace hgt:=hgt.ext a8;replace hr:=hr.ext a8;exact⟨_,rfl,BX.plain ⟨M,rfl,rfl,⟨EF hb (B4 hget),(fun e_=>by rw[hget]at e_;cases e_),fun _=>hk,hgt,hr,hnk,hng,hnkg,fun q_ h_=>⟨fun e_=>hrb (e_▸h_),fun e_=>hrk (e_▸h_),hrg q_ h_⟩⟩,hok0⟩ (.inl ⟨rfl,rfl⟩) (fun q_ h_=> .inl h_) K0⟩
 ·refine jG ?_
  refine jR<|jC (DQ m M _ ⟨EF hb (B4 hget),(fun e_=>by rw[hget]at e_;cases e_),fun _=>hk,hgt,hr,hnk,hng,hnkg,fun q_ h_=>⟨fun e_=>hrb (e_▸h_),fun e_=>hrk (e_▸h_),hrg q_ h_⟩⟩ hok0) ?_;rintro _ aU ⟨rfl,a9⟩;have K0:=(a9:As w _).to (S:=(Dx m M));refine jV (A3 (AS rfl) (by simp[hlv])) ?_;refine jG ?_;refine jV (Ba (b:=true) (e:=false) rfl rfl rfl) ?_;refine jG ?_;refine CE ?_;refine jG ?_;refine jK func18 ?_;obtain⟨e1,e2,e3⟩:=Fh (Q:=M.pv) (now:=now) (fun h_=>hlv (tickOk_iff.1 h_).1);rw[e1,e2,e3];replace hb:=hb.ext a9;replace hk:=hk.ext a9;replace hgt:=hgt.ext a9;replace hr:=hr.ext a9;exact⟨_,rfl,BX.plain ⟨M,rfl,rfl,⟨EF hb (B4 hget),(fun e_=>by rw[hget]at e_;cases e_),fun _=>hk,hgt,hr,hnk,hng,hnkg,fun q_ h_=>⟨fun e_=>hrb (e_▸h_),fun e_=>hrk (e_▸h_),hrg q_ h_⟩⟩,hok0⟩ (.inl ⟨rfl,rfl⟩) (fun q_ h_=> .inl h_) K0⟩
theorem Tl (m : Nat) (F : Nat → Prop) (Q : PM) (v : MV) (s : A6) (w : World) (hM : B3 w m F Q) (hI : Fs Q) (hR : Dj w s v) (hv : Fl v) (hE : EE v.ent) (hcap : v.ent.length ≤ s.ec) :
    Calls prog 11 #[jp m, .agg #[.int .i64 ((An v s).kind), .int .i64 ((An v s).frm), .int .i64 ((An v s).to), .int .i64 ((An v s).req), .string ((An v s).key), .slice s.ea v.ent.length s.ec, .slice s.ma v.mrk.length s.mc, .slice s.ca v.cl.length s.cc, .int .i64 ((An v s).owner), .int .i64 ((An v s).part), .int .i64 ((An v s).n), .int .i64 (((An v s).ring).parts), .int .i64 (((An v s).ring).copies), .int .i64 (((An v s).ring).spots), .slice s.ba v.mem.length s.bc, .slice s.pa v.pe.length s.pc, .slice s.sa v.su.length s.sc]] w (AU fun r w' => BX w w' m F (DA Q v) (Hg Q v) Q.id (DB Q v) (DT Q v) r) := by
  obtain ⟨M, rfl, rfl, h, ho⟩ := hM
  cases hp : M.put with
  | false => exact Tk m M v s w h ho hp hI.ok (hI.cx hp) hR hv hE hcap
  | true =>
    refine (Ti m M v s w h ho hp hI.ok hR hv hE hcap).mono ?_
    rintro e_ w_ ⟨r_, h1_, F', t0, rfl, (⟨hno, hM, rfl⟩ | ⟨hy, hM, hT⟩), hF, K⟩
    · have hn : ¬ Dy M.pv v = true := by rw [hno]; decide
      obtain ⟨e1, e2, e3⟩ := Gf hn
      exact ⟨_, h1_, by rw [e1, e2, e3]; exact BX.plain hM (.inl ⟨rfl, rfl⟩) hF K⟩
    · obtain ⟨e1, e2, e3, e4⟩ := Kb hy hp
      exact ⟨_, h1_, by rw [e1, e2, e3, e4]; exact BX.plain hM hT hF K⟩
theorem R8 (m:Nat)(F:Nat→Prop)(Q:PM)(now:Int)(w:World)(hM:B3 w m F Q)(hI:Fs Q):
  Calls prog 18 #[jp m,.int .i64 now] w (AU fun r w'=>BX w w' m F (Dt Q now) (DC Q now) Q.id (BM Q now) nilV r):=by
 obtain⟨M,rfl,rfl,h,ho⟩:=hM
 cases hp:M.put with
 |false=>exact R7 m M now w h ho hp hI.ok
 |true=>exact R6 m M now w h ho hp hI.ok
end Go.Proofs.YtocgdeefgohdhaaGreat
