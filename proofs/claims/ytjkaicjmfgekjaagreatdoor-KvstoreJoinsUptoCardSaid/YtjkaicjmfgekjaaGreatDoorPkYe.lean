/-
  Ye, Yf, Yg
-/
import Derived.Test.YtjkaicjmfgekjaaGreatDoorRows
import Derived.Test.YtjkaicjmfgekjaaGreatDoorPkYc
import Derived.Test.YtjkaicjmfgekjaaGreatDoorPkI
set_option linter.all false
set_option maxRecDepth 100000
set_option maxHeartbeats 4000000
namespace Go.Proofs.YtjkaicjmfgekjaaGreatDoor
open Go.Proofs.Tryz
attribute [local irreducible] RD RS Av RL RA RT CJ Aj
attribute [local irreducible] crcN B6 B3 E1 BV leL Cm Ak Az Di Dt DZ Em C4
def DL (b:List UInt8):Int:=if b=[]then 1 else if 65536<b.length then 4 else 0
theorem Tm {b:List UInt8}(h:DL b=0):b≠ []∧b.length≤65536:=by
 rw[DL]at h
 split at h
 ·cases h
 ·split at h
  ·cases h
  ·exact⟨by assumption,by omega⟩
def B8 (pl:List PF)(ns:List Int):List PF:=pl.map fun f=>if ns.any (fun n=>decide (f.name=Ak n))then{f with synced:=f.bytes.length}else f
theorem GC (pl:List PF):B8 pl []=pl:=by rw[B8];simp
theorem L7 (pl:List PF)(ns:List Int)(n:Int):B8 pl (ns++[n])=Cj (B8 pl ns) (Ak n):=by
 rw[B8,Cj,DS,B8,List.map_map]
 refine List.map_congr_left fun f _=> ?_
 simp only[Function.comp,List.any_append,List.any_cons,List.any_nil,Bool.or_false,Bool.or_eq_true,decide_eq_true_eq]
 generalize ns.any (fun n=>decide (f.name=Ak n))=b
 cases b<;>by_cases h2:f.name=Ak n<;>simp[h2]
theorem Kf {pl:List PF}{ns:List Int}{i:Nat}{n:Int}(h:ns[i]? =some n):B8 pl (ns.take (i+1))=Cj (B8 pl (ns.take i)) (Ak n):=by
 obtain⟨hi,rfl⟩:=List.getElem?_eq_some_iff.1 h
 rw[List.take_succ_eq_append_getElem hi,L7]
theorem Kg {pl:List PF}{ns:List Int}{s:ByteArray}(h:B7 pl s=true):B7 (B8 pl ns) s=true:=by
 obtain⟨f,hf,rfl⟩:=Ba.1 h
 refine Ba.2 ⟨_,List.mem_map.2 ⟨f,hf,rfl⟩,?_⟩
 split<;>rfl
theorem Re {pl:List PF}{s:ByteArray}(h:B7 pl s=false):A3 pl s=pl:=by
 rw[A3,List.filter_eq_self]
 intro f hf
 simp only[decide_eq_true_eq]
 exact fun e=>by rw[Ba.2 ⟨f,hf,e⟩]at h;cases h
theorem fresh_may :Cr freshN=true:=by decide+kernel
theorem JC {pl:List PF}(h:B7 pl freshN=false):Cb pl freshN=20:=by rw[Cb,if_pos fresh_may,h];rfl
noncomputable def Au (room:Int)(pl:List PF):Int×List (List UInt8)×List PF:=Dl room pl (Az pl) []
noncomputable def BX (room:Int)(pl:List PF):Int×List (List UInt8)×List PF:=
 if (Au room (A3 pl freshN)).1=0 then(0,(Au room (A3 pl freshN)).2.1,B8 (Au room (A3 pl freshN)).2.2 (Az (Au room (A3 pl freshN)).2.2))
 else((Au room (A3 pl freshN)).1,[],(Au room (A3 pl freshN)).2.2)
noncomputable def AM (room:Int)(pl:List PF)(xs:List UInt8):Int×List PF:=
 if DL xs≠0 then(DL xs,pl)else
 if 0<AW pl∧4096≤EY pl (Ak (AW pl))then
  (if 999999999<max (AW pl+1) 1 then(70,Cj pl (Ak (AW pl)))else(CN room (Cj pl (Ak (AW pl))) (Ak (max (AW pl+1) 1)) (AH xs),CH room (Cj pl (Ak (AW pl))) (Ak (max (AW pl+1) 1)) (AH xs)))
 else(if 999999999<max (AW pl) 1 then(70,pl)else(CN room pl (Ak (max (AW pl) 1)) (AH xs),CH room pl (Ak (max (AW pl) 1)) (AH xs)))
noncomputable def FB (pl:List PF):List PF:=if AW pl=0 then pl else Cj pl (Ak (AW pl))
theorem GX {pl:List PF}(h:AW pl≠0):AW pl∈Az pl:=by
 rw[AW]at h⊢
 cases hl:(Az pl).getLast? with
 |none=>rw[hl]at h;exact absurd rfl h
 |some x=>exact List.mem_of_getLast? hl
theorem Tn (pl:List PF):0≤AW pl∧AW pl≤999999999:=by
 by_cases h:AW pl=0
 ·omega
 ·have:=B5.1 (GX h);omega
theorem Nw {w:World}{d:Nat}{F:Nat→Prop}{room:Int}{pl:List PF}(h:AF w d F room pl)(name:ByteArray)(hs:name.size≤4294967295)(E:Int)(he:Cb pl name=E):Calls prog 58 #[jp d,.string name] w
  (AS fun v w'=>v= .tuple #[.int .i64 ((EY pl name:Nat):Int),.int .i64 ((QU pl name:Nat):Int),.int .i64 E]∧Aq w w'):=he▸Ug h name hs
attribute [local irreducible] Au DL AH
attribute [local irreducible] X
theorem K8 (b d:Nat)(F:Nat→Prop)(room:Int)(pl:List PF)(w:World)(hb:AA w b [jp d] 161)(hD:AF w d F room pl)(hbd:¬F b)(hL:AZ w):
  Calls prog 89 #[jp b] w (AS (fun v w'=>v= .bool true∧Aq w w')):=by
 have hLs:=hL.size;refine Ae (n:=13) func89 rfl rfl rfl ?_;refine jG ?_;refine jV (Cq (DR underlying89 rfl rfl) rfl) ?_;refine jG ?_;refine jT<|jO (Cq (DR underlying23 rfl rfl) rfl) ?_;refine jV (Bv rfl rfl rfl) ?_;refine jG ?_;refine jJ func89 ?_;exact⟨_,rfl,rfl,(Ah.refl _ w)⟩
theorem To (a:Option Addr)(xs:List UInt8)(c:Nat)(w:World):
  Calls prog 90 #[.slice a xs.length c] w (AS (fun v w'=>v= .int .i64 (DL xs)∧Aq w w')):=by
 refine Ae (n:=11) func90 rfl rfl rfl ?_;refine jG ?_;refine jF ?_ ?_
 ·intro hc3
  refine jG ?_;refine jJ func90 ?_;exact⟨_,rfl,by unfold DL;rw[if_pos (List.eq_nil_of_length_eq_zero Zo)],(Ah.refl _ w)⟩
 ·intro hc3
  refine jG ?_;refine jF ?_ ?_
  ·intro hc7
   refine jG ?_;refine jJ func90 ?_;exact⟨_,rfl,by unfold DL;rw[if_neg (CX Zo),if_pos Zo],(Ah.refl _ w)⟩
  ·intro hc7
   refine jG ?_;refine jJ func90 ?_;exact⟨_,rfl,by unfold DL;rw[if_neg (CX Zo),if_neg Zo],(Ah.refl _ w)⟩
theorem Rf (b d:Nat)(F:Nat→Prop)(room:Int)(pl:List PF)(w:World)(hb:AA w b [jp d] 161)(hD:AF w d F room pl)(hbd:¬F b)(hL:AZ w):
  Calls prog 114 #[jp b] w (AS (fun v w'=>∃a' c',v= .slice a' (Az pl).length c'∧Af w' 3 a' c' (Az pl)∧(∀q,own a' q→w.heap.size≤q)∧Aq w w')):=by
 have hLs:=hL.size;have hok:=hD.ok;have hlen:=hok.len;have hsl:=Dj pl;refine Ae (n:=10) func114 rfl rfl rfl ?_;refine jG ?_;refine jR<|jC (K8 _ _ _ _ _ _ hb hD hbd hL) ?_;rintro _ a7 ⟨rfl,a0⟩;have K0:=(a0:Aq w _);refine jV (Bo (b:=true) rfl) ?_;refine jG ?_;refine Aj.condF rfl ?_;refine jG ?_;replace hb:=hb.ext a0;replace hD:=hD.ext a0;replace hL:=hL.ext a0;refine jR<|jC (OA _ _ _ _ _ _ hb hD hbd hL) ?_;rintro _ a8 ⟨a2,a3,rfl,a4,a1,a5⟩;have a6:=A1 K0.size a1;clear a1;refine jG ?_;refine jJ func114 ?_;replace K0:=K0.ext a5;exact⟨_,rfl,a2,a3,rfl,a4,a6,K0⟩
theorem Tp (b d:Nat)(F:Nat→Prop)(room:Int)(pl:List PF)(w:World)(hb:AA w b [jp d] 161)(hD:AF w d F room pl)(hbd:¬F b)(hL:AZ w):
  Calls prog 43 #[jp b] w (AS (fun v w'=>v= .int .i64 ((DA pl (Az pl):Nat):Int)∧Aq w w')):=by
 have hLs:=hL.size;have hok:=hD.ok;have hlen:=hok.len;have hsl:=Dj pl;refine Ae (n:=10) func43 rfl rfl rfl ?_;refine jG ?_;refine jR<|jC (K8 _ _ _ _ _ _ hb hD hbd hL) ?_;rintro _ a2 ⟨rfl,a0⟩;have K0:=(a0:Aq w _);refine jV (Bo (b:=true) rfl) ?_;refine jG ?_;refine Aj.condF rfl ?_;refine jG ?_;replace hb:=hb.ext a0;replace hD:=hD.ext a0;replace hL:=hL.ext a0;refine jR<|jC (Ti _ _ _ _ _ _ hb hD hbd hL) ?_;rintro _ a3 ⟨rfl,a1⟩;refine jG ?_;refine jJ func43 ?_;replace K0:=K0.ext a1;exact⟨_,rfl,rfl,K0⟩
theorem UY (b d:Nat)(F:Nat→Prop)(room:Int)(pl:List PF)(w:World)(hb:AA w b [jp d] 161)(hD:AF w d F room pl)(hbd:¬F b)(hL:AZ w)(hFG:∀q,F q→7≤q):
  Calls prog 50 #[jp b] w (AS (EX d F room w 0 (FB pl))):=by
 have hLs:=hL.size;have hnm:=Br (AW pl);refine Ae (n:=21) func50 rfl rfl rfl ?_;refine jG ?_;refine jR<|jC (K8 _ _ _ _ _ _ hb hD hbd hL) ?_;rintro _ a9 ⟨rfl,a0⟩;have K0:=(a0:Aq w _).to (S:=F);refine jV (Bo (b:=true) rfl) ?_;refine jG ?_;refine Aj.condF rfl ?_;refine jG ?_;replace hb:=hb.ext a0;replace hD:=hD.ext a0;replace hL:=hL.ext a0;refine jR<|jC (Ui _ _ _ _ _ _ hb hD hbd hL) ?_;rintro _ aa ⟨rfl,a1⟩;refine jG ?_;replace hb:=hb.ext a1;replace hD:=hD.ext a1;replace hL:=hL.ext a1;replace K0:=K0.ext a1;refine jF ?_ ?_
 ·intro hc12
  refine jG ?_;refine jJ func50 ?_;have hEq:FB pl=pl:=by rw[FB,if_pos hc12]
  rw[hEq];exact⟨_,rfl,F,rfl,hD,AK (fun q_ h_ _=>h_),K0⟩
 ·intro hc12
  refine jG ?_;refine Aj.drawS [] [0,1,2,3,1004,5,2006,2007,8] ?_;intro ab a2;replace hb:=hb.ext a2;refine jM (jb hb Jn) ?_;refine jG ?_;replace hL:=hL.ext a2;refine jU rfl<|jC (BW (AW pl) _ hL) ?_;rintro _ ac ⟨rfl,a3⟩;replace hb:=hb.ext a3;refine jG ?_;replace hD:=(hD.ext a2).ext a3;refine jU rfl<|jC (FL (LV hD (Ak (AW pl)) (by first|omega|decide)) (GV (GX hc12)) rfl) ?_;rintro _ ad ⟨a4,rfl,a7,a5,a6⟩;replace K0:=(K0.ext a2).ext a3;have a8:∀q_,a4 q_→q_<w.heap.size→F q_:=a5.inS (fun q_ h_ _=>h_) K0.size;replace K0:=K0.trans a6 (fun x hlt hx=>(fun q_ h_ _=>h_) x hx hlt);clear a5;replace hb:=hb.keep a6 hbd;refine jG ?_;refine jJ func50 ?_;have hEq:FB pl=Cj pl (Ak (AW pl)):=by rw[FB,if_neg hc12]
  rw[hEq];exact⟨_,rfl,a4,rfl,a7,AK a8,K0⟩
theorem I2 (b d:Nat)(F:Nat→Prop)(room:Int)(pl:List PF)(a:Option Addr)(xs:List UInt8)(c:Nat)(w:World)(hb:AA w b [jp d] 161)(hD:AF w d F room pl)(hbd:¬F b)(hL:AZ w)(hFG:∀q,F q→7≤q)(hs:As w a xs)(hdis:∀x,a=some x→¬F x.block):
  Calls prog 40 #[jp b,.slice a xs.length c] w (AS (EX d F room w (AM room pl xs).1 (AM room pl xs).2)):=by
 have hLs:=hL.size;have hnm:=Br (AW pl);have hll:=Tn pl;refine Ae (n:=79) func40 rfl rfl rfl ?_;refine jG ?_;refine jR<|jC (K8 _ _ _ _ _ _ hb hD hbd hL) ?_;rintro _ aO ⟨rfl,a6⟩;have K0:=(a6:Aq w _).to (S:=F);refine jV (Bo (b:=true) rfl) ?_;refine jG ?_;refine Aj.condF rfl ?_;refine jG ?_;refine jR<|jC (To _ xs _ _) ?_;rintro _ aP ⟨rfl,a7⟩;refine jG ?_;replace hb:=(hb.ext a6).ext a7;replace hD:=(hD.ext a6).ext a7;replace hL:=(hL.ext a6).ext a7;replace K0:=K0.ext a7;refine jF ?_ ?_
 ·intro hc15
  refine jG ?_;refine jJ func40 ?_;have hEq:AM room pl xs=(DL xs,pl):=by rw[AM,if_pos hc15]
  rw[hEq];exact⟨_,rfl,F,rfl,hD,AK (fun q_ h_ _=>h_),K0⟩
 ·intro hc15
  have hm0:DL xs=0:=hc15;rw[hm0];have hmk:=Tm hm0;refine jG ?_;refine jR<|jC (Ui _ _ _ _ _ _ hb hD hbd hL) ?_;rintro _ aQ ⟨rfl,a8⟩;refine jG ?_;replace hb:=hb.ext a8;replace hD:=hD.ext a8;replace hL:=hL.ext a8;replace K0:=K0.ext a8;refine jF ?_ ?_
  ·intro hc22
   skip
   refine Aj.drawS [] [0,1,2,3,1004,5,2006,2007,8,9,10,11,12,13] ?_;intro aR a9;replace hb:=hb.ext a9;refine jM (jb hb Jn) ?_;refine jG ?_;replace hL:=hL.ext a9;refine jU rfl<|jC (BW (AW pl) _ hL) ?_;rintro _ aS ⟨rfl,aa⟩;replace hb:=hb.ext aa;refine jG ?_;replace hD:=(hD.ext a9).ext aa;refine jU rfl<|jC (Nw hD (Ak (AW pl)) (by first|omega|decide) 0 (GV (GX Zo))) ?_;rintro _ aT ⟨rfl,ab⟩;replace hb:=hb.ext ab;refine jG ?_;refine jV (Bv rfl rfl rfl) ?_;refine jG ?_;refine jV (AJ rfl rfl rfl) ?_;refine jG ?_;replace K0:=((K0.ext a9).ext aa).ext ab;replace hL:=(hL.ext aa).ext ab;replace hD:=hD.ext ab;refine jF ?_ ?_
   ·intro hc44
    skip
    refine jG ?_;refine Aj.drawS [] [0,1,2,3,1004,5,2006,2007,8] ?_;intro aU ac;replace hb:=hb.ext ac;refine jM (jb hb Jn) ?_;refine jG ?_;replace hL:=hL.ext ac;refine jU rfl<|jC (BW (AW pl) _ hL) ?_;rintro _ aV ⟨rfl,ad⟩;replace hb:=hb.ext ad;refine jG ?_;replace hD:=(hD.ext ac).ext ad;refine jU rfl<|jC (FL (LV hD (Ak (AW pl)) (by first|omega|decide)) (GV (GX Zo)) rfl) ?_;rintro _ aW ⟨ae,rfl,a0,af,ak⟩;have aD:¬ae b:=af.not hbd hb.lt;replace K0:=(K0.ext ac).ext ad;have al:∀q_,ae q_→q_<w.heap.size→F q_:=af.inS (fun q_ h_ _=>h_) K0.size;have aE:∀q_,ae q_→7≤q_:=fun q_ h_=>(af q_ h_).elim (hFG q_) (fun h2_=>Nat.le_trans hLs (Nat.le_trans K0.size h2_));replace K0:=K0.trans ak (fun x hlt hx=>(fun q_ h_ _=>h_) x hx hlt);clear af;replace hb:=hb.keep ak hbd;refine jG ?_;refine jV (An rfl rfl Zo Zo) ?_;refine jG ?_;refine Aj.condF rfl ?_;refine jG ?_;refine jV (IG rfl rfl) ?_;refine jG ?_;replace hL:=(hL.ext ad).keep ak hFG;refine jF ?_ ?_
    ·intro hc61
     refine jG ?_;refine jJ func40 ?_;have hEq:AM room pl xs=(70,Cj pl (Ak (AW pl))):=by rw[AM,if_neg (by rw[hm0];decide),if_pos ⟨by omega,by omega⟩,if_pos hc61]
     rw[hEq];exact⟨_,rfl,ae,rfl,a0,AK al,K0⟩
    ·intro hc61
     have hnm1:=Br (max (AW pl+1) 1);have hnm2:=Br (max (AW pl) 1);have hfb:=Ek xs Zo;refine jG ?_;refine jR<|jC (Np _ _ _ _ (hs.keep K0 hdis) (by first|omega|(simp;done))) ?_;rintro _ aX ⟨aY,aZ,rfl,am,ar,ag⟩;have aF:=Ao ar a0.own_lt;clear ar;refine jG ?_;refine Aj.condF rfl ?_;refine jG ?_;refine Aj.drawS [] [0,1,2,3,1004,5,7,2006,2008,9] ?_;intro b0 a1;replace hb:=(hb.ext ag).ext a1;refine jM (jb hb Jn) ?_;refine jG ?_;replace hL:=(hL.ext ag).ext a1;refine jU rfl<|jC (BW (max ((AW pl)+1) 1) _ hL) ?_;rintro _ b1 ⟨rfl,a2⟩;replace hb:=hb.ext a2;refine jG ?_;replace a0:=((a0.ext ag).ext a1).ext a2;replace am:=(am.ext a1).ext a2;refine jU rfl<|jC (Ih a0 (Ak (max ((AW pl)+1) 1)) _ _ _ (by first|omega|decide) am.sl (fun x_ hx_=>aF _ ⟨x_,hx_,rfl⟩) (by first|omega|decide)) ?_;rintro _ b2 ⟨au,rfl,aG,av,an⟩;replace K0:=((K0.ext ag).ext a1).ext a2;have aH:∀q_,au q_→q_<w.heap.size→F q_:=av.inS al K0.size;replace K0:=K0.trans an (fun x hlt hx=>al x hx hlt);clear av;replace hb:=hb.keep an aD;refine jG ?_;refine jJ func40 ?_;have hEq:AM room pl xs=(CN room (Cj pl (Ak (AW pl))) (Ak (max ((AW pl)+1) 1)) (AH xs),CH room (Cj pl (Ak (AW pl))) (Ak (max ((AW pl)+1) 1)) (AH xs)):=by rw[AM,if_neg (by rw[hm0];decide),if_pos ⟨by omega,by omega⟩,if_neg Zo]
     rw[hEq];replace hL:=(hL.ext a2).keep an aE;exact⟨_,rfl,au,rfl,aG,AK aH,K0⟩
   ·intro hc44
    skip
    refine jG ?_;refine Aj.condF rfl ?_;refine jG ?_;refine jV (IG rfl rfl) ?_;refine jG ?_;refine jF ?_ ?_
    ·intro hc61
     refine jG ?_;refine jJ func40 ?_;have hEq:AM room pl xs=(70,pl):=by rw[AM,if_neg (by rw[hm0];decide),if_neg Zo,if_pos hc61]
     rw[hEq];exact⟨_,rfl,F,rfl,hD,AK (fun q_ h_ _=>h_),K0⟩
    ·intro hc61
     have hnm1:=Br (max (AW pl+1) 1);have hnm2:=Br (max (AW pl) 1);have hfb:=Ek xs Zo;refine jG ?_;refine jR<|jC (Np _ _ _ _ (hs.keep K0 hdis) (by first|omega|(simp;done))) ?_;rintro _ b3 ⟨b4,b5,rfl,ao,aw,ah⟩;have aI:=Ao aw hD.own_lt;clear aw;refine jG ?_;refine Aj.condF rfl ?_;refine jG ?_;refine Aj.drawS [] [0,1,2,3,1004,5,7,2006,2008,9] ?_;intro b6 a3;replace hb:=(hb.ext ah).ext a3;refine jM (jb hb Jn) ?_;refine jG ?_;replace hL:=(hL.ext ah).ext a3;refine jU rfl<|jC (BW (max (AW pl) 1) _ hL) ?_;rintro _ b7 ⟨rfl,a4⟩;replace hb:=hb.ext a4;refine jG ?_;replace hD:=((hD.ext ah).ext a3).ext a4;replace ao:=(ao.ext a3).ext a4;refine jU rfl<|jC (Ih hD (Ak (max (AW pl) 1)) _ _ _ (by first|omega|decide) ao.sl (fun x_ hx_=>aI _ ⟨x_,hx_,rfl⟩) (by first|omega|decide)) ?_;rintro _ b8 ⟨ax,rfl,aJ,ay,ap⟩;replace K0:=((K0.ext ah).ext a3).ext a4;have aK:∀q_,ax q_→q_<w.heap.size→F q_:=ay.inS (fun q_ h_ _=>h_) K0.size;replace K0:=K0.trans ap (fun x hlt hx=>(fun q_ h_ _=>h_) x hx hlt);clear ay;replace hb:=hb.keep ap hbd;refine jG ?_;refine jJ func40 ?_;have hEq:AM room pl xs=(CN room pl (Ak (max (AW pl) 1)) (AH xs),CH room pl (Ak (max (AW pl) 1)) (AH xs)):=by rw[AM,if_neg (by rw[hm0];decide),if_neg Zo,if_neg Zo]
     rw[hEq];replace hL:=(hL.ext a4).keep ap hFG;exact⟨_,rfl,ax,rfl,aJ,AK aK,K0⟩
  ·intro hc22
   skip
   refine jG ?_;refine jV (Bv rfl rfl rfl) ?_;refine FJ ?_;refine jW ?_ (hx:=by exact fun hg=>(CW (Ly (Bf hg) rfl) Zd));refine jV (AJ rfl rfl rfl) ?_;refine jG ?_;refine jF ?_ ?_
   ·intro hc44
    simp at hc44
   ·intro hc44
    skip
    refine jG ?_;refine Aj.condF rfl ?_;refine jG ?_;refine jV (IG rfl rfl) ?_;refine jG ?_;refine jF ?_ ?_
    ·intro hc61
     refine jG ?_;refine jJ func40 ?_;have hEq:AM room pl xs=(70,pl):=by rw[AM,if_neg (by rw[hm0];decide),if_neg Zo,if_pos hc61]
     rw[hEq];exact⟨_,rfl,F,rfl,hD,AK (fun q_ h_ _=>h_),K0⟩
    ·intro hc61
     have hnm1:=Br (max (AW pl+1) 1);have hnm2:=Br (max (AW pl) 1);have hfb:=Ek xs Zo;refine jG ?_;refine jR<|jC (Np _ _ _ _ (hs.keep K0 hdis) (by first|omega|(simp;done))) ?_;rintro _ b9 ⟨ba,bb,rfl,aq,az,ai⟩;have aL:=Ao az hD.own_lt;clear az;refine jG ?_;refine Aj.condF rfl ?_;refine jG ?_;refine Aj.drawS [] [0,1,2,3,1004,5,7,2006,2008,9] ?_;intro bc a5;replace hb:=(hb.ext ai).ext a5;refine jM (jb hb Jn) ?_;refine jG ?_;replace hL:=(hL.ext ai).ext a5;refine jU rfl<|jC (BW (max (AW pl) 1) _ hL) ?_;rintro _ be ⟨rfl,aj⟩;replace hb:=hb.ext aj;refine jG ?_;replace hD:=((hD.ext ai).ext a5).ext aj;replace aq:=(aq.ext a5).ext aj;refine jU rfl<|jC (Ih hD (Ak (max (AW pl) 1)) _ _ _ (by first|omega|decide) aq.sl (fun x_ hx_=>aL _ ⟨x_,hx_,rfl⟩) (by first|omega|decide)) ?_;rintro _ bg ⟨aA,rfl,aM,aB,aC⟩;replace K0:=((K0.ext ai).ext a5).ext aj;have aN:∀q_,aA q_→q_<w.heap.size→F q_:=aB.inS (fun q_ h_ _=>h_) K0.size;replace K0:=K0.trans aC (fun x hlt hx=>(fun q_ h_ _=>h_) x hx hlt);clear aB;replace hb:=hb.keep aC hbd;refine jG ?_;refine jJ func40 ?_;have hEq:AM room pl xs=(CN room pl (Ak (max (AW pl) 1)) (AH xs),CH room pl (Ak (max (AW pl) 1)) (AH xs)):=by rw[AM,if_neg (by rw[hm0];decide),if_neg Zo,if_neg Zo]
     rw[hEq];exact⟨_,rfl,aA,rfl,aM,AK aN,K0⟩
theorem Rg (b d:Nat)(F:Nat→Prop)(room:Int)(pl:List PF)(w:World)(hb:AA w b [jp d] 161)(hD:AF w d F room pl)(hbd:¬F b)(hL:AZ w)(hFG:∀q,F q→7≤q):Calls prog 113 #[jp b] w (AS fun v w'=>∃F',AF w' d F' room (Au room pl).2.2∧A8 w F F'∧Ah F w w'∧(((Au room pl).1=0∧∃a' c',∃rs:List RB,v= .tuple #[.slice a' (rs.map RB.h).length c',.int .i64 0]∧Af w' 98 a' c' (rs.map RB.h)∧Bt w' rs∧rs.map RB.b=(Au room pl).2.1∧(∀q,own a' q→w.heap.size≤q)∧(∀q,A2 rs q→w.heap.size≤q)∧(∀q,own a' q→¬A2 rs q)∧(∀q,own a' q→¬F' q)∧(∀q,A2 rs q→¬F' q))∨((Au room pl).1≠0∧v= .tuple #[.slice none 0 0,.int .i64 (Au room pl).1]))):=by
 unfold Au
 exact UX b d F room pl w hb hD hbd hL hFG
theorem UZ (d:Nat)(F:Nat→Prop)(room:Int)(pl:List PF)(w:World)(hD:AF w d F room pl)(hL:AZ w)(hFG:∀q,F q→7≤q):
  Calls prog 59 #[jp d] w (AS (fun v w'=>∃F',AF w' d F' room (BX room pl).2.2∧A8 w F F'∧Ah F w w'∧(((BX room pl).1=0∧∃a' c',∃rs:List RB,∃b,v= .tuple #[jp b,.slice a' (rs.map RB.h).length c',.int .i64 0]∧AA w' b [jp d] 161∧¬F' b∧w.heap.size≤b∧Af w' 98 a' c' (rs.map RB.h)∧Bt w' rs∧rs.map RB.b=(BX room pl).2.1∧(∀q,own a' q→w.heap.size≤q)∧(∀q,A2 rs q→w.heap.size≤q)∧(∀q,own a' q→¬A2 rs q)∧(∀q,own a' q→¬F' q)∧(∀q,A2 rs q→¬F' q))∨((BX room pl).1≠0∧v= .tuple #[.pointer none,.slice none 0 0,.int .i64 (BX room pl).1])))):=by
 have hLs:=hL.size;have hfs:freshN.size=7:=rfl;refine Ae (n:=60) func59 rfl rfl rfl ?_;refine FJ ?_;refine Ex ?_;by_cases hfr:B7 pl freshN=true
 ·refine jG ?_
  refine jR<|jC (Nw hD freshN (by first|omega|decide) 0 (DU fresh_may hfr)) ?_;rintro _ bY ⟨rfl,aJ⟩;have K0:=(aJ:Aq w _).to (S:=F);refine jG ?_;refine Aj.condF rfl ?_;refine jG ?_;refine Ed ?_;refine jG ?_;replace hD:=hD.ext aJ;refine jR<|jC (FL (Ii hD freshN (by first|omega|decide)) (DU fresh_may hfr) rfl) ?_;rintro _ bZ ⟨b2,rfl,aC,aK,b3⟩;have aD:∀q_,b2 q_→q_<w.heap.size→F q_:=aK.inS (fun q_ h_ _=>h_) K0.size;have aE:∀q_,b2 q_→7≤q_:=fun q_ h_=>(aK q_ h_).elim (hFG q_) (fun h2_=>Nat.le_trans hLs (Nat.le_trans K0.size h2_));replace K0:=K0.trans b3 (fun x hlt hx=>(fun q_ h_ _=>h_) x hx hlt);clear aK;refine jG ?_;refine Aj.condF rfl ?_;refine jG ?_;refine jV (AC (cells:=#[jp d]) Zk) ?_;refine jV (AC (cells:=#[jp d]) Zk) ?_;refine jR<|jB ?_;intro aa c0 aL a0 aM;have aN:=Al aC.own_lt aL;have:=Nat.le_trans K0.size aL;clear aL;refine jG ?_;replace hL:=((hL.ext aJ).keep b3 hFG).ext aM;replace aC:=aC.ext aM;refine jR<|jC (Rg _ _ _ _ _ _ a0 aC aN hL aE) ?_;rintro vv c1 ⟨au,a8,ag,av,aw⟩;replace K0:=K0.ext aM;rcases aw with aw|aw
  ·obtain⟨bi,ah,aF,ai,rfl,a2,a3,bj,bk,bl,bm,bn,bo⟩:=aw
   have bp:=A1 K0.size bk;have bq:=A1 K0.size bl;have b4:¬au aa:=ag.not aN a0.lt;have bs:∀q_,au q_→q_<w.heap.size→F q_:=ag.inS aD K0.size;have bt:∀q_,au q_→7≤q_:=fun q_ h_=>(ag q_ h_).elim (aE q_) (fun h2_=>Nat.le_trans hLs (Nat.le_trans K0.size h2_));replace K0:=K0.trans av (fun x hlt hx=>aD x hx hlt);clear ag;refine jG ?_;refine Aj.condF rfl ?_;refine jG ?_;replace hL:=hL.keep av aE;replace a0:=a0.keep av aN;refine jR<|jC (Rf _ _ _ _ _ _ a0 a8 b4 hL) ?_;rintro _ c2 ⟨aG,b5,rfl,a6,b6,aj⟩;have bu:=Ao b6 a8.own_lt;clear b6;have hsl:=Dj (Au room (A3 pl freshN)).2.2;replace a8:=a8.ext aj;have hlen2:=(a8).ok.len;refine jG ?_;replace hL:=hL.ext aj;replace a0:=a0.ext aj;replace a2:=a2.ext aj;replace a3:=a3.ext aj;replace K0:=K0.ext aj;refine Aj.loop (ι:=Nat) (fun i ρ' w'=>∃Fk:Nat→Prop,Holds ρ' [(0,jp d),(8,jp aa),(9,.slice ah ((ai.map RB.h).length) aF),(44,.slice aG ((Az ((Au room (A3 pl freshN)).2.2)).length) b5),(45,.int .i64 (((Az ((Au room (A3 pl freshN)).2.2)).length:Nat):Int)),(46,.int .i64 ((i:Nat):Int)),(7,.int .i64 0)]∧Ah F w w'∧(AZ w')∧(AA w' aa [jp d] 161)∧(Af w' 98 ah aF (ai.map RB.h))∧(Bt w' ai)∧(Af w' 3 aG b5 (Az ((Au room (A3 pl freshN)).2.2)))∧(AF w' d Fk room (B8 (Au room (A3 pl freshN)).2.2 ((Az (Au room (A3 pl freshN)).2.2).take i)))∧(¬Fk aa)∧(∀q_,Fk q_→¬own ah q_)∧(∀q_,Fk q_→¬A2 ai q_)∧(∀q_,Fk q_→¬own aG q_)∧(∀q_,Fk q_→q_<w.heap.size→F q_)∧(∀q_,Fk q_→7≤q_)∧(i≤(Az (Au room (A3 pl freshN)).2.2).length)) (fun i=>(Az (Au room (A3 pl freshN)).2.2).length-i) 0 ?_ ?_
   ·rw[show B8 (Au room (A3 pl freshN)).2.2 ((Az (Au room (A3 pl freshN)).2.2).take 0)=(Au room (A3 pl freshN)).2.2 by rw[List.take_zero,GC]]
    refine⟨_,⟨rfl,rfl,rfl,rfl,rfl,rfl,rfl,trivial⟩,K0,hL,a0,a2,a3,a6,a8,b4,(Zf bn),(Zf bo),(Zf bu),bs,bt,?_⟩
    ·omega
   clear a0 a8 a2 a3 a6;clear K0;rintro i c3 c4 ⟨Fk,b7,K0,hL,a0,a2,a3,a6,ax,aO,aP,aQ,b8,aR,b9,hi⟩ ih1;obtain⟨ρ₀,rfl⟩:=b7.ex;clear b7;refine jG ?_;refine jF ?_ ?_
   ·intro hc47
    obtain⟨c5,c6,n,hn,c7,c8⟩:=a6.sl.eo i;have hnm:=Br n;refine jG ?_;refine jR<|jC (BW n _ hL) ?_;rintro _ c9 ⟨rfl,ab⟩;replace ax:=ax.ext ab;refine jR<|jC (FL (LV ax (Ak n) (by first|omega|decide)) (DU (Dz (B5.1 (List.mem_of_getElem? hn)).1 (B5.1 (List.mem_of_getElem? hn)).2.1) (Kg (B5.1 (List.mem_of_getElem? hn)).2.2)) rfl) ?_;rintro _ ca ⟨ak,rfl,bv,ac,al⟩;replace a0:=a0.ext ab;have bw:¬ak aa:=ac.not aO a0.lt;replace a2:=a2.ext ab;have bx:∀q_,ak q_→¬own ah q_:=ac.apart aP a2.own_lt;replace a3:=a3.ext ab;have bz:∀q_,ak q_→¬A2 ai q_:=ac.apart aQ a3.own_lt;replace a6:=a6.ext ab;have bA:∀q_,ak q_→¬own aG q_:=ac.apart b8 a6.own_lt;replace K0:=K0.ext ab;have bB:∀q_,ak q_→q_<w.heap.size→F q_:=ac.inS aR K0.size;have bC:∀q_,ak q_→7≤q_:=fun q_ h_=>(ac q_ h_).elim (b9 q_) (fun h2_=>Nat.le_trans hLs (Nat.le_trans K0.size h2_));replace K0:=K0.trans al (fun x hlt hx=>aR x hx hlt);clear ac;refine jG ?_;refine Aj.condF rfl ?_;refine jG ?_;refine jV (At (c:=((i+1:Nat):Int)) (An rfl rfl Zo Zo) rfl) ?_;refine jG ?_;have e:=Kf (pl:=(Au room (A3 pl freshN)).2.2) hn;refine ih1 (i+1) _ _ ?_ Zo;rw[e];replace hL:=(hL.ext ab).keep al b9;replace a0:=a0.keep al aO;replace a2:=a2.keepO al (Zf aP);replace a3:=a3.keepO al (Zf aQ);replace a6:=a6.keepO al (Zf b8);refine⟨_,⟨rfl,rfl,rfl,rfl,rfl,rfl,rfl,trivial⟩,K0,hL,a0,a2,a3,a6,bv,bw,bx,bz,bA,bB,bC,?_⟩
    ·omega
   ·intro hc47
    refine jG ?_;refine Aj.ret3 (v:=jp aa) (x:= .slice ah ((ai.map RB.h).length) aF) (y:= .int .i64 0) func59 rfl rfl rfl rfl ?_;have hie:i=(Az (Au room (A3 pl freshN)).2.2).length:=by omega
    subst hie;rw[List.take_length]at ax;have hEq:BX room pl=(0,(Au room (A3 pl freshN)).2.1,B8 (Au room (A3 pl freshN)).2.2 (Az (Au room (A3 pl freshN)).2.2)):=by rw[BX,if_pos bi]
    rw[hEq];exact⟨_,rfl,Fk,ax,AK aR,K0,.inl ⟨rfl,ah,aF,_,aa,rfl,a0,aO,by omega,a2,a3,bj,bp,bq,bm,(Zf aP),(Zf aQ)⟩⟩
  ·obtain⟨aS,rfl⟩:=aw
   have bD:∀q_,au q_→q_<w.heap.size→F q_:=ag.inS aD K0.size;replace K0:=K0.trans av (fun x hlt hx=>aD x hx hlt);clear ag;refine jG ?_;replace hL:=hL.keep av aE;refine jF ?_ ?_
   ·intro hc41
    refine jG ?_;refine Aj.ret3 (v:= .pointer none) (x:= .slice none 0 0) (y:= .int .i64 ((Au room (A3 pl freshN)).1)) func59 rfl rfl rfl rfl ?_;have hEq:BX room pl=((Au room (A3 pl freshN)).1,[],(Au room (A3 pl freshN)).2.2):=by rw[BX,if_neg aS]
    rw[hEq];exact⟨_,rfl,au,a8,AK bD,K0,.inr ⟨aS,rfl⟩⟩
   ·intro hc41
    exact absurd hc41 aS
 ·refine jG ?_
  refine jR<|jC (Nw hD freshN (by first|omega|decide) 20 (JC (by simpa using hfr))) ?_;rintro _ cb ⟨rfl,aT⟩;have K0:=(aT:Aq w _).to (S:=F);refine jG ?_;refine Aj.condF rfl ?_;refine jG ?_;refine Aj.condF rfl ?_;replace hD:=hD.ext aT;rw[show pl=A3 pl freshN from(Re (by simpa using hfr)).symm]at hD;refine jG ?_;refine jV (AC (cells:=#[jp d]) Zk) ?_;refine jV (AC (cells:=#[jp d]) Zk) ?_;refine jR<|jB ?_;intro ad cc aU a1 aV;have aW:=Al hD.own_lt aU;have:=Nat.le_trans K0.size aU;clear aU;refine jG ?_;replace hL:=(hL.ext aT).ext aV;replace hD:=hD.ext aV;refine jR<|jC (Rg _ _ _ _ _ _ a1 hD aW hL hFG) ?_;rintro vv cd ⟨ay,a9,am,az,aA⟩;replace K0:=K0.ext aV;rcases aA with aA|aA
  ·obtain⟨bE,an,aH,ao,rfl,a4,a5,bF,bG,bH,bI,bJ,bK⟩:=aA
   have bL:=A1 K0.size bG;have bM:=A1 K0.size bH;have ba:¬ay ad:=am.not aW a1.lt;have bN:∀q_,ay q_→q_<w.heap.size→F q_:=am.inS (fun q_ h_ _=>h_) K0.size;have bO:∀q_,ay q_→7≤q_:=fun q_ h_=>(am q_ h_).elim (hFG q_) (fun h2_=>Nat.le_trans hLs (Nat.le_trans K0.size h2_));replace K0:=K0.trans az (fun x hlt hx=>(fun q_ h_ _=>h_) x hx hlt);clear am;refine jG ?_;refine Aj.condF rfl ?_;refine jG ?_;replace hL:=hL.keep az hFG;replace a1:=a1.keep az aW;refine jR<|jC (Rf _ _ _ _ _ _ a1 a9 ba hL) ?_;rintro _ ce ⟨aI,bb,rfl,a7,bc,ap⟩;have bP:=Ao bc a9.own_lt;clear bc;have hsl:=Dj (Au room (A3 pl freshN)).2.2;replace a9:=a9.ext ap;have hlen2:=(a9).ok.len;refine jG ?_;replace hL:=hL.ext ap;replace a1:=a1.ext ap;replace a4:=a4.ext ap;replace a5:=a5.ext ap;replace K0:=K0.ext ap;refine Aj.loop (ι:=Nat) (fun i ρ' w'=>∃Fk:Nat→Prop,Holds ρ' [(0,jp d),(8,jp ad),(9,.slice an ((ao.map RB.h).length) aH),(44,.slice aI ((Az ((Au room (A3 pl freshN)).2.2)).length) bb),(45,.int .i64 (((Az ((Au room (A3 pl freshN)).2.2)).length:Nat):Int)),(46,.int .i64 ((i:Nat):Int)),(7,.int .i64 0)]∧Ah F w w'∧(AZ w')∧(AA w' ad [jp d] 161)∧(Af w' 98 an aH (ao.map RB.h))∧(Bt w' ao)∧(Af w' 3 aI bb (Az ((Au room (A3 pl freshN)).2.2)))∧(AF w' d Fk room (B8 (Au room (A3 pl freshN)).2.2 ((Az (Au room (A3 pl freshN)).2.2).take i)))∧(¬Fk ad)∧(∀q_,Fk q_→¬own an q_)∧(∀q_,Fk q_→¬A2 ao q_)∧(∀q_,Fk q_→¬own aI q_)∧(∀q_,Fk q_→q_<w.heap.size→F q_)∧(∀q_,Fk q_→7≤q_)∧(i≤(Az (Au room (A3 pl freshN)).2.2).length)) (fun i=>(Az (Au room (A3 pl freshN)).2.2).length-i) 0 ?_ ?_
   ·rw[show B8 (Au room (A3 pl freshN)).2.2 ((Az (Au room (A3 pl freshN)).2.2).take 0)=(Au room (A3 pl freshN)).2.2 by rw[List.take_zero,GC]]
    refine⟨_,⟨rfl,rfl,rfl,rfl,rfl,rfl,rfl,trivial⟩,K0,hL,a1,a4,a5,a7,a9,ba,(Zf bJ),(Zf bK),(Zf bP),bN,bO,?_⟩
    ·omega
   clear a1 a9 a4 a5 a7;clear K0;rintro i cf cg ⟨Fk,be,K0,hL,a1,a4,a5,a7,aB,aX,aY,aZ,bg,b0,bh,hi⟩ ih2;obtain⟨ρ₀,rfl⟩:=be.ex;clear be;refine jG ?_;refine jF ?_ ?_
   ·intro hc47
    obtain⟨ch,ci,n,hn,cj,ck⟩:=a7.sl.eo i;have hnm:=Br n;refine jG ?_;refine jR<|jC (BW n _ hL) ?_;rintro _ cm ⟨rfl,ae⟩;replace aB:=aB.ext ae;refine jR<|jC (FL (LV aB (Ak n) (by first|omega|decide)) (DU (Dz (B5.1 (List.mem_of_getElem? hn)).1 (B5.1 (List.mem_of_getElem? hn)).2.1) (Kg (B5.1 (List.mem_of_getElem? hn)).2.2)) rfl) ?_;rintro _ cn ⟨aq,rfl,bQ,af,ar⟩;replace a1:=a1.ext ae;have bR:¬aq ad:=af.not aX a1.lt;replace a4:=a4.ext ae;have bS:∀q_,aq q_→¬own an q_:=af.apart aY a4.own_lt;replace a5:=a5.ext ae;have bT:∀q_,aq q_→¬A2 ao q_:=af.apart aZ a5.own_lt;replace a7:=a7.ext ae;have bU:∀q_,aq q_→¬own aI q_:=af.apart bg a7.own_lt;replace K0:=K0.ext ae;have bV:∀q_,aq q_→q_<w.heap.size→F q_:=af.inS b0 K0.size;have bW:∀q_,aq q_→7≤q_:=fun q_ h_=>(af q_ h_).elim (bh q_) (fun h2_=>Nat.le_trans hLs (Nat.le_trans K0.size h2_));replace K0:=K0.trans ar (fun x hlt hx=>b0 x hx hlt);clear af;refine jG ?_;refine Aj.condF rfl ?_;refine jG ?_;refine jV (At (c:=((i+1:Nat):Int)) (An rfl rfl Zo Zo) rfl) ?_;refine jG ?_;have e:=Kf (pl:=(Au room (A3 pl freshN)).2.2) hn;refine ih2 (i+1) _ _ ?_ Zo;rw[e];replace hL:=(hL.ext ae).keep ar bh;replace a1:=a1.keep ar aX;replace a4:=a4.keepO ar (Zf aY);replace a5:=a5.keepO ar (Zf aZ);replace a7:=a7.keepO ar (Zf bg);refine⟨_,⟨rfl,rfl,rfl,rfl,rfl,rfl,rfl,trivial⟩,K0,hL,a1,a4,a5,a7,bQ,bR,bS,bT,bU,bV,bW,?_⟩
    ·omega
   ·intro hc47
    refine jG ?_;refine Aj.ret3 (v:=jp ad) (x:= .slice an ((ao.map RB.h).length) aH) (y:= .int .i64 0) func59 rfl rfl rfl rfl ?_;have hie:i=(Az (Au room (A3 pl freshN)).2.2).length:=by omega
    subst hie;rw[List.take_length]at aB;have hEq:BX room pl=(0,(Au room (A3 pl freshN)).2.1,B8 (Au room (A3 pl freshN)).2.2 (Az (Au room (A3 pl freshN)).2.2)):=by rw[BX,if_pos bE]
    rw[hEq];exact⟨_,rfl,Fk,aB,AK b0,K0,.inl ⟨rfl,an,aH,_,ad,rfl,a1,aX,by omega,a4,a5,bF,bL,bM,bI,(Zf aY),(Zf aZ)⟩⟩
  ·obtain⟨b1,rfl⟩:=aA
   have bX:∀q_,ay q_→q_<w.heap.size→F q_:=am.inS (fun q_ h_ _=>h_) K0.size;replace K0:=K0.trans az (fun x hlt hx=>(fun q_ h_ _=>h_) x hx hlt);clear am;refine jG ?_;replace hL:=hL.keep az hFG;refine jF ?_ ?_
   ·intro hc41
    refine jG ?_;refine Aj.ret3 (v:= .pointer none) (x:= .slice none 0 0) (y:= .int .i64 ((Au room (A3 pl freshN)).1)) func59 rfl rfl rfl rfl ?_;have hEq:BX room pl=((Au room (A3 pl freshN)).1,[],(Au room (A3 pl freshN)).2.2):=by rw[BX,if_neg b1]
    rw[hEq];exact⟨_,rfl,ay,a9,AK bX,K0,.inr ⟨b1,rfl⟩⟩
   ·intro hc41
    exact absurd hc41 b1
end Go.Proofs.YtjkaicjmfgekjaaGreatDoor
namespace Go.Proofs.YtjkaicjmfgekjaaGreatDoor
open Go.Proofs.Tryz
attribute [local irreducible] RD RS Av RL RA RT CJ Aj
theorem U0 (i:Nat)(h:i≤8):128^(9-i)=128*128^(9-(i+1)):=by
 rw[show 9-i=(9-(i+1))+1 by omega,Nat.pow_succ,Nat.mul_comm]
theorem Rh (n p:Nat):n%128*p+n/128*(128*p)=n*p:=by
 rw[←Nat.mul_assoc,←Nat.add_mul]
 congr 1
 omega
theorem VP (n:Nat):(UInt8.ofNat (n%128+128)).toNat=n%128+128:=by rw[UInt8.toNat_ofNat'];omega
theorem U1 {n:Nat}(h:n<128):(UInt8.ofNat n).toNat=n:=by rw[UInt8.toNat_ofNat'];omega
theorem numL_vput : ∀ (n i acc : Nat) (rest : List UInt8), i ≤ 8 → n < 128 ^ (9 - i) → (i = 0 ∨ 0 < n) → BV i acc (Ay n ++ rest) = .ok (acc + n * 2 ^ (7 * i), i + (Ay n).length) := fun n => by
  induction n using Nat.strongRecOn with
  | _ n ih =>
    intro i acc rest hi hn h0
    by_cases c : n < 128
    · rw [Ej c, List.singleton_append]
      have hb := U1 c
      rw [BV, if_neg Zo, if_pos Zo, if_neg Zo, hb, Nat.mod_eq_of_lt c]
      simp
    · have hi8 : i ≠ 8 := by
        intro e
        subst e
        exact c (by simpa using hn)
      have hb := VP n
      rw [IU c, List.cons_append, BV, if_neg Zo, if_neg Zo]
      rw [U0 i hi] at hn
      rw [ih (n / 128) Zo (i + 1) _ rest Zo Zo (.inr Zo), hb, show (n % 128 + 128) % 128 = n % 128 by omega, Hx, Nat.add_assoc, Rh]
      simp only [List.length_cons]
      congr 2
      omega
theorem Tq {s:Nat}(h:s<4294967296):leL (S2 s)=s:=by
 simp only[S2,leL,UInt8.toNat_ofNat']
 omega
theorem In (s:Nat):(S2 s).length=4:=rfl
section
variable {p rest:List UInt8}
theorem PI (h:p.length≤65536):Cm (AH p++rest)= .ok (p,rest):=by
 have e:AH p++rest=Ay p.length++(p++(S2 (B3 p)++rest)):=by simp only[AH,List.append_assoc]
 have hN:BV 0 0 (AH p++rest)= .ok (p.length,(Ay p.length).length):=by
  rw[e,numL_vput _ 0 0 _ Zd (by simp only[Nat.sub_zero];omega) (.inl rfl)];simp
 have d1:(AH p++rest).drop (Ay p.length).length=p++(S2 (B3 p)++rest):=by rw[e,List.drop_left]
 have d2:(AH p++rest).drop ((Ay p.length).length+p.length)=S2 (B3 p)++rest:=by rw[←List.drop_drop,d1,List.drop_left]
 have d3:(AH p++rest).drop ((Ay p.length).length+p.length+4)=rest:=by rw[←List.drop_drop,d2];exact List.drop_left' (In _)
 have hl:(AH p++rest).length=(Ay p.length).length+(p.length+(4+rest.length)):=by rw[e];simp only[List.length_append,In]
 have t1:((AH p++rest).drop (Ay p.length).length).take p.length=p:=by rw[d1,List.take_left]
 have t2:((AH p++rest).drop ((Ay p.length).length+p.length)).take 4=S2 (B3 p):=by rw[d2];exact List.take_left' (In _)
 have:=Ox hN Zo Zo (by rw[t2,t1,Tq (Ou p)])
 rw[this,t1,d3]
theorem frameB_ne :AH p≠ []:=by
 intro e
 have:=congrArg List.length e
 simp only[AH,List.length_append,In,List.length_nil]at this
 omega
end
theorem frames_app : ∀ (ps : List (List UInt8)) (rest : List UInt8), (∀ p ∈ ps, p.length ≤ 65536) → AG (ps.flatMap AH ++ rest) = (ps ++ (AG rest).1, (AG rest).2)
  | [], rest, _ => by simp
  | p :: ps, rest, h => by
    have hp := h p Zs
    rw [List.flatMap_cons, List.append_assoc, GB (by simp [frameB_ne]) (PI hp), frames_app ps rest fun q hq => h q (by simp [hq])]
    rfl
theorem Nx (ps:List (List UInt8))(h:∀p∈ps,p.length≤65536):AG (ps.flatMap AH)=(ps,[]):=by
 have:=frames_app ps [] h
 rw[List.append_nil,framesR_nil,List.append_nil]at this
 exact this
theorem steps_all : ∀ (ps acc : List (List UInt8)), (∀ p ∈ ps, p ≠ []) → ps.foldl FA acc = acc ++ ps
  | [], acc, _ => by simp
  | p :: ps, acc, h => by
    rw [List.foldl_cons, FA, if_neg (h p Zs), steps_all ps _ fun q hq => h q (by simp [hq])]
    simp
attribute [local irreducible] crcN B6 B3 E1 BV leL Cm Ak Az Di Dt DZ Em C4
attribute [local irreducible] Au DL AH
def Ri (w:World)(rs:List RB):Prop:=∀r∈rs,As w r.a r.b
theorem Ri.ext {w w':World}{rs:List RB}(h:Ri w rs)(k:Aq w w'):Ri w' rs:=fun r hr=>(h r hr).ext k
def VQ (acc:List RB)(r:RB):List RB:=if 0<r.b.length∧r.b.length≤5000∧acc.length<25 then acc++[r]else acc
def usualR (rs:List RB):List RB:=rs.foldl VQ []
end Go.Proofs.YtjkaicjmfgekjaaGreatDoor
namespace Go.Proofs.YtjkaicjmfgekjaaGreatDoor
open Go.Proofs.Tryz
attribute [local irreducible] RD RS Av RL RA RT CJ Aj
attribute [local irreducible] crcN B6 B3 E1 BV leL Cm Ak Az Di Dt DZ Em C4
attribute [local irreducible] Au DL AH
def Wy (B:List UInt8)(s:Nat):List PF:=[⟨Ak 1,B,s⟩]
def fullL (T:List (List UInt8)):List PF:=if T=[]then[]else Wy (T.flatMap AH) 0
theorem segsL_nil :Az []=[]:=by
 unfold Az Dt
 have:Bi []=[]:=by simp[Bi,DT]
 rw[this];exact sortZ_nil
theorem name1_may :Cr (Ak 1)=true:=Dz Zd Zd
theorem L8 (room:Int):Au room []=(0,[],[]):=by unfold Au;rw[segsL_nil];rfl
theorem I3 (room:Int):BX room []=(0,[],[]):=by
 have e:A3 [] freshN=[]:=rfl
 rw[BX,e,L8,if_pos rfl,segsL_nil,GC]
theorem PJ {b:List UInt8}(h0:0<b.length)(h1:b.length≤65536):DL b=0:=by unfold DL;rw[if_neg (CX h0),if_neg Zo]
theorem VR (room:Int)(w:World)(h:0≤room∧room≤16777216):Calls prog 25 #[.int .i64 room] w (AS fun v w'=>∃d F,v= .tuple #[jp d,.int .i64 0]∧AF w' d F room []∧(∀q,F q→w.heap.size≤q)∧Aq w w'):=
 Bq (Wu room w) fun v w' hh=>hh.elim (fun h1=>absurd h h1.1) (fun h1=>h1.2)
end Go.Proofs.YtjkaicjmfgekjaaGreatDoor
