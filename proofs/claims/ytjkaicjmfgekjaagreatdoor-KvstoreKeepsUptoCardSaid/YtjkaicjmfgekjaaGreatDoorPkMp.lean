/-
  Mp, Mq
-/
import Derived.Test.YtjkaicjmfgekjaaGreatDoorPkMj
set_option linter.all false
set_option maxRecDepth 100000
set_option maxHeartbeats 4000000
namespace Go.Proofs.YtjkaicjmfgekjaaGreatDoor
open Go.Proofs.Tryz
attribute [local irreducible] RD RS AA RL RA RT Cz Ai AC DQ Cp BH Bz B4 Cb D4 Cj itemsN BW AO Br BK Gr AP A4 Ar Ck As A1 Ay A5 EM AW AK Cy setM Ax Ao encK
section
attribute [local irreducible] X
theorem Xh (b lg m1 m2 m3 d:Nat)(F:Nat->Prop)(st:Int)(pl:List PF)(w:World)(hb:AB w b [.int .i32 0,.int .u32 0,jp lg,.int .i64 st,.map (some m1),.map (some m2),.map (some m3)] 94)(hlog:AB w lg [jp d] 161)(hD:AG w d F 4194304 pl)(hL:A2 w)(hFG:∀q,F q->7<=q)(hbG:7<=b)(n1:b≠lg)(f1:¬F b)(f2:¬F lg):
  Calls prog 15 #[jp b] w (AN (fun v w'=>v= .int .i64 0∧AB w' b [.int .i32 0,.int .u32 0,jp lg,.int .i64 st,.map (some m1),.map (some m2),.map (some m3)] 94∧(∃F',AG w' d F' 4194304 (Fi pl)∧AL w F F')∧Ad (fun q_=>F q_∨q_=b) w w')):=by
 have hLs:=hL.size;refine Ac (n:=14) func15 rfl rfl rfl ?_;refine jG ?_;refine jR<|jC (Bv _ _ _ _ _ _ _ hb) ?_;rintro _ ab ⟨rfl,a4,a0⟩;have K0:=(Ad.refl (fun q_=>F q_∨q_=b) w).tf a0 (Or.inr rfl);replace hb:=a4;clear a4;refine jV (Bn (b:=true) rfl) ?_;refine jG ?_;refine Ai.condF rfl ?_;refine jG ?_;refine RL.defer (vals:=[jp b]) rfl ?_;refine jG ?_;replace hlog:=hlog.kp a0;replace hD:=hD.kO a0 (Aa f1);replace hL:=hL.keep a0 Zw;refine jR<|jC (Uh _ _ _ _ _ _ hlog hD f2 hL hFG) ?_;rintro _ a5 ⟨a1,rfl,a2,a3,a6⟩;have a7:¬a1 b:=a3.not f1 hb.lt;have aa:∀q_,a1 q_->q_<w.heap.size->(fun q_=>F q_∨q_=b) q_:=a3.inS (fun q_ h_ _=>Or.inl h_) K0.size;replace K0:=K0.trans a6 (fun x hlt hx=>(fun q_ h_ _=>Or.inl h_) x hx hlt);clear a3;refine jG ?_;replace hb:=hb.keep a6 f1;refine Ai.retU muLib func15 rfl (fun _=>Bq rfl rfl) hb.cellH (hb.thawH 0) ?_;obtain⟨a8,hwU_⟩:∃w_,w_=a5.setCell ⟨b,0,none⟩ (.int .i32 0):=⟨_,rfl⟩;rw[<-hwU_];have hbU_:AB a8 b [.int .i32 0,.int .u32 0,jp lg,.int .i64 st,.map (some m1),.map (some m2),.map (some m3)] 94:=hwU_▸hb.setH;have a9:Ad (one b) a5 a8:=hwU_▸AJ _ _ _ _;replace K0:=K0.tf a9 (Or.inr rfl);replace hb:=hbU_;have hmv:AL w F a1:=fun q_ h_=>(Abo q_ w.heap.size).elim (fun l_=>(aa q_ h_ l_).elim .inl (fun e_=>absurd (e_▸h_) a7)) .inr;replace a2:=a2.kO a9 (Aa a7);exact⟨_,rfl,rfl,hb,⟨a1,a2,hmv⟩,K0⟩
theorem Y8 (b lg m1 m2 m3:Nat)(st:Int)(ps:List (ByteArray×Value))(o:Option Kc)(key:ByteArray)(w:World)(hb:AB w b [.int .i32 0,.int .u32 0,jp lg,.int .i64 st,.map (some m1),.map (some m2),.map (some m3)] 94)(hM1:At w m1 ps)(n2:b≠m1)(hget:BO ps key=o.map (fun t=>(Kc.kv t).2))(hTo:∀t,o=some t->Bf w t.s t.v∧Bl t.v t.s∧∀q,BE t.s t.v q->¬one b q):
  Calls prog 13 #[jp b,.string key] w (AN (fun r w'=>AB w' b [.int .i32 0,.int .u32 0,jp lg,.int .i64 st,.map (some m1),.map (some m2),.map (some m3)] 94∧Ad (one b) w w'∧((o=none∧r= .tuple #[.agg #[.slice none 0 0,.slice none 0 0,.slice none 0 0],.int .i64 91])∨∃t,o=some t∧∃s1,r= .tuple #[.agg #[.slice s1.ea t.v.ent.length s1.ec,.slice s1.ma t.v.mrk.length s1.mc,.slice s1.ca t.v.cl.length s1.cc],.int .i64 0]∧Dr w' s1 t.v∧Iy s1∧(∀q,En s1 q->w.heap.size<=q)))):=by
 refine Ac (n:=29) func13 rfl rfl rfl ?_;refine El ?_;by_cases hh:o.isSome=true
 ·obtain⟨t,ho⟩:=Option.isSome_iff_exists.1 hh
  have hTt:=hTo t ho;have hRt:=hTt.1;have hget2:BO ps key=some (Kc.kv t).2:=by rw[hget,ho];rfl
  refine jG ?_;refine jR<|jA ?_;intro av aG a4 a0 aa;have aH:=Ak hb.lt a4;have aw:=An hM1.oL a4;have ax:=An hRt.oL a4;have:w.heap.size<=av:=a4;clear a4;have K0:=(aa:Ap w _).to (S:=(one b));refine jG ?_;replace hb:=hb.ext aa;refine jR<|jC (Bv _ _ _ _ _ _ _ hb) ?_;rintro _ aI ⟨rfl,ak,ab⟩;replace K0:=K0.tf ab rfl;replace hb:=ak;clear ak;refine jV (Bn (b:=true) rfl) ?_;refine jG ?_;refine Ai.condF rfl ?_;refine jG ?_;refine RL.defer (vals:=[jp b]) rfl ?_;refine jG ?_;replace hM1:=(hM1.ext aa).kO ab (Zx (fun e_=>n2 e_));refine jV (C7 (v':= .tuple #[.agg #[.slice t.s.ea t.v.ent.length t.s.ec,.slice t.s.ma t.v.mrk.length t.s.mc,.slice t.s.ca t.v.cl.length t.s.cc],.bool true]) (BA underlying90 underlying9 rfl ty33 rfl rfl hM1) (by rw[hget2];rfl)) ?_;refine jG ?_;refine jR<|jA ?_;intro aJ aK a3 al a5;have aL:=Ak hb.lt a3;replace a0:=a0.kp ab;have aM:=Ak a0.lt a3;have ay:=An hM1.oL a3;replace hRt:=(hRt.ext aa).kO ab (Zx (fun h_=>hTt.2.2 _ h_ rfl));have az:=An hRt.oL a3;have:=Aaa K0.size a3;clear a3;refine jR<|jS al ?_;intro aN al a6;replace K0:=K0.ext a5;replace K0:=K0.n1 a6;refine Em ?_;refine jV (Bn (b:=true) rfl) ?_;refine jG ?_;refine Ai.condF rfl ?_;refine jG ?_;replace hRt:=(hRt.ext a5).kO a6 (Aa az);refine jR<|jC (Fs t.v t.s _ hRt hTt.2.1.ok) ?_;rintro _ aO ⟨a2,rfl,af,aA,ac,a7⟩;replace hb:=(hb.ext a5).kp a6;have aB:=Aw ac hb.lt;replace a0:=(a0.ext a5).kp a6;have aC:=Aw ac a0.lt;have aD:=Bd K0.size ac;clear ac;replace a0:=a0.ext a7;refine jR<|jS a0 ?_;intro am a0 a8;replace K0:=K0.ext a7;replace K0:=K0.n1 a8;refine jG ?_;replace hb:=(hb.ext a7).kp a8;refine Ai.retUCT muLib (x:= .int .i64 0) (cs:=#[.slice a2.ea t.v.ent.length a2.ec,.slice a2.ma t.v.mrk.length a2.mc,.slice a2.ca t.v.cl.length a2.cc]) func13 rfl rfl ty33 rfl rfl a0.cl Zo rfl hb.cellH (hb.thawH 0) ?_;obtain⟨an,hwU_⟩:∃w_,w_=am.setCell ⟨b,0,none⟩ (.int .i32 0):=⟨_,rfl⟩;rw[<-hwU_];have hbU_:AB an b [.int .i32 0,.int .u32 0,jp lg,.int .i64 st,.map (some m1),.map (some m2),.map (some m3)] 94:=hwU_▸hb.setH;have ad:Ad (one b) am an:=hwU_▸AJ _ _ _ _;replace K0:=K0.tf ad rfl;replace hb:=hbU_;replace hM1:=((((hM1.ext a5).kO a6 (Aa ay)).ext a7).kO a8 (Aa aw)).kO ad (Zx (fun e_=>n2 e_));replace hRt:=((hRt.ext a7).kO a8 (Aa ax)).kO ad (Zx (fun h_=>hTt.2.2 _ h_ rfl));replace af:=(af.kO a8 (Aa aC)).kO ad (Aa aB);exact⟨_,rfl,hb,K0,.inr ⟨t,ho,a2,rfl,af,aA,aD⟩⟩
 ·have ho:o=none:=by cases o with|none=>rfl|some _=>exact absurd rfl hh
  have hget2:BO ps key=none:=by rw[hget,ho];rfl
  refine jG ?_;refine jR<|jA ?_;intro aE aP ae a1 ag;have aQ:=Ak hb.lt ae;have aR:=An hM1.oL ae;have:w.heap.size<=aE:=ae;clear ae;have K0:=(ag:Ap w _).to (S:=(one b));refine jG ?_;replace hb:=hb.ext ag;refine jR<|jC (Bv _ _ _ _ _ _ _ hb) ?_;rintro _ aS ⟨rfl,ao,ah⟩;replace K0:=K0.tf ah rfl;replace hb:=ao;clear ao;refine jV (Bn (b:=true) rfl) ?_;refine jG ?_;refine Ai.condF rfl ?_;refine jG ?_;refine RL.defer (vals:=[jp b]) rfl ?_;refine jG ?_;replace hM1:=(hM1.ext ag).kO ah (Zx (fun e_=>n2 e_));refine jV (C7 (v':= .tuple #[.agg #[.slice none 0 0,.slice none 0 0,.slice none 0 0],.bool false]) (BA underlying90 underlying9 rfl ty33 rfl rfl hM1) (by rw[hget2];rfl)) ?_;refine jG ?_;refine jR<|jA ?_;intro aT aU a9 ap ai;have aV:=Ak hb.lt a9;replace a1:=a1.kp ah;have aW:=Ak a1.lt a9;have aX:=An hM1.oL a9;have:=Aaa K0.size a9;clear a9;refine jR<|jS ap ?_;intro aY ap aj;replace K0:=K0.ext ai;replace K0:=K0.n1 aj;refine Em ?_;refine jV (Bn (b:=false) rfl) ?_;refine jG ?_;refine C4 ?_;refine jG ?_;refine jV (AI (cells:=#[.slice none 0 0,.slice none 0 0,.slice none 0 0]) Zk) ?_;replace a1:=(a1.ext ai).kp aj;refine jR<|jS a1 ?_;intro aq a1 ar;replace K0:=K0.n1 ar;refine jG ?_;replace hb:=((hb.ext ai).kp aj).kp ar;refine Ai.retUCT muLib (x:= .int .i64 91) (cs:=#[.slice none 0 0,.slice none 0 0,.slice none 0 0]) func13 rfl rfl ty33 rfl rfl a1.cl Zo rfl hb.cellH (hb.thawH 0) ?_;obtain⟨au,hwU_⟩:∃w_,w_=aq.setCell ⟨b,0,none⟩ (.int .i32 0):=⟨_,rfl⟩;rw[<-hwU_];have hbU_:AB au b [.int .i32 0,.int .u32 0,jp lg,.int .i64 st,.map (some m1),.map (some m2),.map (some m3)] 94:=hwU_▸hb.setH;have aF:Ad (one b) aq au:=hwU_▸AJ _ _ _ _;replace K0:=K0.tf aF rfl;replace hb:=hbU_;exact⟨_,rfl,hb,K0,.inl ⟨ho,rfl⟩⟩
theorem Xi (b lg m1 m2 m3:Nat)(st:Int)(qs:List (ByteArray×Value))(ma:Option Addr)(ml:List Ab)(mc:Nat)(key:ByteArray)(w:World)(hb:AB w b [.int .i32 0,.int .u32 0,jp lg,.int .i64 st,.map (some m1),.map (some m2),.map (some m3)] 94)(hM3:At w m3 qs)(hgm:(BO qs key).getD (.slice none 0 0)= .slice ma ml.length mc)(hms:Av w ma ml)(hml:ml.length<=1000)(hapM:∀x,ma=some x->ml≠ []->¬one b x.block)(n4:b≠m3):
  Calls prog 53 #[jp b,.string key] w (AN (fun r w'=>AB w' b [.int .i32 0,.int .u32 0,jp lg,.int .i64 st,.map (some m1),.map (some m2),.map (some m3)] 94∧Ad (one b) w w'∧∃a' c',r= .slice a' ml.length c'∧Af w' 46 a' c' ml∧(∀q,own a' q->w.heap.size<=q))):=by
 refine Ac (n:=18) func53 rfl rfl rfl ?_;refine jG ?_;refine jR<|jC (Bv _ _ _ _ _ _ _ hb) ?_;rintro _ ac ⟨rfl,a2,a3⟩;have K0:=(Ad.refl (one b) w).tf a3 rfl;replace hb:=a2;clear a2;refine jV (Bn (b:=true) rfl) ?_;refine jG ?_;refine Ai.condF rfl ?_;refine jG ?_;refine RL.defer (vals:=[jp b]) rfl ?_;refine jG ?_;replace hM3:=hM3.kO a3 (Zx (fun e_=>n4 e_));refine jV (C7 (v':= .slice ma ml.length mc) (Dd underlying92 underlying9 rfl ty28 rfl rfl hM3) hgm) ?_;refine jR<|jC (Hm _ _ _ _ (hms.keepN K0 hapM) Zo) ?_;rintro _ a4 ⟨a8,a9,rfl,a0,a1,a5⟩;have aa:=Aw a1 hb.lt;have ab:=Bd K0.size a1;clear a1;refine jG ?_;replace hb:=hb.ext a5;refine Ai.retU muLib func53 rfl (fun _=>Bq rfl rfl) hb.cellH (hb.thawH 0) ?_;obtain⟨a6,hwU_⟩:∃w_,w_=a4.setCell ⟨b,0,none⟩ (.int .i32 0):=⟨_,rfl⟩;rw[<-hwU_];have hbU_:AB a6 b [.int .i32 0,.int .u32 0,jp lg,.int .i64 st,.map (some m1),.map (some m2),.map (some m3)] 94:=hwU_▸hb.setH;have a7:Ad (one b) a4 a6:=hwU_▸AJ _ _ _ _;replace K0:=K0.ext a5;replace K0:=K0.tf a7 rfl;replace hb:=hbU_;replace a0:=a0.kO a7 (Aa aa);exact⟨_,rfl,hb,K0,a8,a9,rfl,a0,ab⟩
end
section
section
variable {w w':World}{b d lg m1 m2 m3:Nat}{F F' Z S:Nat->Prop}{st:Int}{pl pl':List PF}{ts ts':List Kc}{ks ks':List Km}{hs hs':List AH}{s:KF}{key:ByteArray}
theorem H1.same (H:H1 w b d lg m1 m2 m3 F pl st ts ks hs)(hL7:7<=w.heap.size)(k:Ad (one b) w w')(hb:AB w' b [.int .i32 0,.int .u32 0,jp lg,.int .i64 st,.map (some m1),.map (some m2),.map (some m3)] 94):H1 w' b d lg m1 m2 m3 F pl st ts ks hs:=by
 obtain⟨n1,n2,n3,n4,n5,n6,n7,n8,n9,n10⟩:=H.ne
 obtain⟨f1,f2,f3,f4,f5⟩:=H.nf
 exact(H.step hL7 (k.mono fun q _ (e:q=b)=>e▸ .inr (.inl rfl)) hb (H.disk.kO k fun q hq (e:q=b)=>f1 (e▸hq)) (AL.refl w F) (H.mc.kO k fun q (e:q=m1) (e2:q=b)=>n2 (e2.symm.trans e)) (H.mh.kO k fun q (e:q=m2) (e2:q=b)=>n3 (e2.symm.trans e)) (H.mm.kO k fun q (e:q=m3) (e2:q=b)=>n4 (e2.symm.trans e)) (fun t ht=> .inl ht) (fun x hx=> .inl hx)).1
theorem one_set9 :∀q,one b q->EY b lg m1 m2 m3 F ts ks q:=fun q (e:q=b)=>e▸ .inl (.inr (.inl rfl))
theorem Rz (h:GN w b d Z pl s)(hL:A2 w):
  Calls prog 20 #[jp b] w (AN fun v w'=>v= .int .i64 s.st∧GN w' b d Z pl s∧Ad Z w w'):=by
 obtain⟨lg,m1,m2,m3,F,st,ts,ks,hs,rfl,H,T⟩:=h
 refine(Vj b lg m1 m2 m3 st w H.blk).mono fun e w' hh=> ?_
 obtain⟨v,rfl,rfl,hb,K⟩:=hh
 exact⟨_,rfl,by rw[T.st],⟨lg,m1,m2,m3,F,st,ts,ks,hs,rfl,H.same hL.size K hb,T⟩,K.mono fun q _ hq=>one_set9 q hq⟩
theorem gm (h:GN w b d Z pl s)(hL:A2 w):
  Calls prog 15 #[jp b] w (AN fun v w'=>v= .int .i64 0∧∃Z':Nat->Prop,GN w' b d Z' (Fi pl) s∧AL w Z Z'∧Ad Z w w'):=by
 obtain⟨lg,m1,m2,m3,F,st,ts,ks,hs,rfl,H,T⟩:=h
 obtain⟨n1,n2,n3,n4,n5,n6,n7,n8,n9,n10⟩:=H.ne
 obtain⟨f1,f2,f3,f4,f5⟩:=H.nf
 refine(Xh b lg m1 m2 m3 d F st pl w H.blk H.log H.disk hL (fun q hq=>H.ge q (.inl hq)) (H.ge b (.inr (.inl rfl))) n1 f1 f2).mono fun e w' hh=> ?_
 obtain⟨v,rfl,rfl,hb,⟨F',hD,hm⟩,K⟩:=hh
 have hft:∀q,F q∨q=b->Ca b m1 m2 m3 F q:=fun q hq=>hq.imp id fun e=> .inl e
 have K':Ad (Ca b m1 m2 m3 F) w w':=K.mono fun q _ hq=>hft q hq
 obtain⟨a,c⟩:=H.step hL.size K' hb hD hm (H.mc.kO K fun q (e:q=m1) e2=>e2.elim (fun x=>f3 (e▸x)) fun e2=>n2 (e2.symm.trans e)) (H.mh.kO K fun q (e:q=m2) e2=>e2.elim (fun x=>f4 (e▸x)) fun e2=>n3 (e2.symm.trans e)) (H.mm.kO K fun q (e:q=m3) e2=>e2.elim (fun x=>f5 (e▸x)) fun e2=>n4 (e2.symm.trans e)) (fun t ht=> .inl ht) (fun x hx=> .inl hx)
 exact⟨_,rfl,rfl,_,⟨lg,m1,m2,m3,F',st,ts,ks,hs,rfl,a,T⟩,c,K'.mono fun q _ hq=>C2 hq⟩
theorem gQ (h:GN w b d Z pl s)(hL:A2 w):
  Calls prog 13 #[jp b,.string key] w (AN fun r w'=>GN w' b d Z pl s∧Ad Z w w'∧((s.c key=none∧r= .tuple #[.agg #[.slice none 0 0,.slice none 0 0,.slice none 0 0],.int .i64 91])∨∃v,s.c key=some v∧∃s1,r= .tuple #[.agg #[.slice s1.ea v.ent.length s1.ec,.slice s1.ma v.mrk.length s1.mc,.slice s1.ca v.cl.length s1.cc],.int .i64 0]∧Dr w' s1 v∧Iy s1∧(∀q,En s1 q->w.heap.size<=q)∧JT v)):=by
 obtain⟨lg,m1,m2,m3,F,st,ts,ks,hs,rfl,H,T⟩:=h
 obtain⟨o,hget,ho,hco⟩:=H.lookC T key
 refine(Y8 b lg m1 m2 m3 st _ o key w H.blk H.mc H.ne.2.1 hget (fun t ht=>⟨(H.cart t (ho t ht).1).1,(H.cart t (ho t ht).1).2.1,fun q hq (e:q=b)=>(H.cart t (ho t ht).1).2.2 q hq (e▸ .inr (.inl rfl))⟩)).mono fun e w' hh=> ?_
 obtain⟨v,rfl,hb,K,hcs⟩:=hh
 refine⟨_,rfl,⟨lg,m1,m2,m3,F,st,ts,ks,hs,rfl,H.same hL.size K hb,T⟩,K.mono fun q _ hq=>one_set9 q hq,?_⟩
 rcases hcs with⟨rfl,e⟩|⟨t,rfl,s1,e,h1,h2,h3⟩
 ·exact .inl ⟨hco,e⟩
 ·exact .inr ⟨t.v,hco,s1,e,h1,h2,h3,(H.cart t (ho t rfl).1).2.1.ok⟩
theorem gn (h:GN w b d Z pl s)(hL:A2 w):
  Calls prog 53 #[jp b,.string key] w (AN fun r w'=>GN w' b d Z pl s∧Ad Z w w'∧∃a' c',r= .slice a' (s.m key).length c'∧Af w' 46 a' c' (s.m key)∧(∀q,own a' q->w.heap.size<=q)):=by
 obtain⟨lg,m1,m2,m3,F,st,ts,ks,hs,rfl,H,T⟩:=h
 obtain⟨ma,mc,hgm,hms,hapM,hsort,hmay,hlen⟩:=H.lookM T key
 refine(Xi b lg m1 m2 m3 st _ ma (s.m key) mc key w H.blk H.mm hgm hms hlen (fun x hx hn (e:x.block=b)=>hapM x hx hn (e▸ .inr (.inl rfl))) H.ne.2.2.2.1).mono fun e w' hh=> ?_
 obtain⟨v,rfl,hb,K,hcs⟩:=hh
 exact⟨_,rfl,⟨lg,m1,m2,m3,F,st,ts,ks,hs,rfl,H.same hL.size K hb,T⟩,K.mono fun q _ hq=>one_set9 q hq,hcs⟩
end
end
end Go.Proofs.YtjkaicjmfgekjaaGreatDoor
