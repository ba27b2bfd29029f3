/-
  Yc, Yd
-/
import Derived.Test.YtjkaicjmfgekjaaGreatDoorRows
import Derived.Test.YtjkaicjmfgekjaaGreatDoorPkYa
import Derived.Test.YtjkaicjmfgekjaaGreatDoorPkI
set_option linter.all false
set_option maxRecDepth 100000
set_option maxHeartbeats 4000000
namespace Go.Proofs.YtjkaicjmfgekjaaGreatDoor
open Go.Proofs.Tryz
attribute [local irreducible] RD RS Av RL RA RT CJ Aj
attribute [local irreducible] crcN B6 B3 E1 BV leL Cm Ak Az Di Dt DZ Em C4
theorem Tk {room:Int}{pl:List PF}{bs:List UInt8}{n:Int}{r:List Int}(h:bs=[]):Fm room pl bs n r=(0,Dk (A3 pl (Ak n)) r):=by rw[Fm,if_pos h]
theorem Rb {room:Int}{pl:List PF}{bs:List UInt8}{n:Int}{r:List Int}(h:bs≠ [])(h2:(Cc room pl bs n).1=0):Fm room pl bs n r=(0,Dk (Cc room pl bs n).2 r):=by rw[Fm,if_neg h,if_pos h2]
theorem Tl {room:Int}{pl:List PF}{bs:List UInt8}{n:Int}{r:List Int}(h:bs≠ [])(h2:(Cc room pl bs n).1≠0):Fm room pl bs n r=Cc room pl bs n:=by rw[Fm,if_neg h,if_neg h2]
theorem AK {w:World}{F F':Nat→Prop}(h:∀q,F' q→q<w.heap.size→F q):A8 w F F':=J0 h
attribute [local irreducible] X
theorem VN (b d:Nat)(F:Nat→Prop)(room:Int)(pl:List PF)(a:Option Addr)(xs:List UInt8)(c:Nat)(n:Int)(w:World)(hb:AA w b [jp d] 161)(hD:AF w d F room pl)(hbd:¬F b)(hL:AZ w)(hFG:∀q,F q→7≤q)(hs:As w a xs)(hdis:∀x,a=some x→¬F x.block)(hl:xs.length≤1073741824):
  Calls prog 124 #[jp b,.slice a xs.length c,.int .i64 n] w (AS (EX d F room w (Cc room pl xs n).1 (Cc room pl xs n).2)):=by
 have hLs:=hL.size;have hnm:=Br n;have hfs:freshN.size=7:=rfl;refine Ae (n:=31) func124 rfl rfl rfl ?_;refine jG ?_;refine jR<|jC (Ih hD freshN _ _ _ (by first|omega|decide) hs Za (by first|omega|decide)) ?_;rintro _ al ⟨a0,rfl,ac,a1,a7⟩;have ad:¬a0 b:=a1.not hbd hb.lt;have a8:∀q_,a0 q_→q_<w.heap.size→F q_:=a1.inS (fun q_ h_ _=>h_) (Nat.le_refl _);have ae:∀q_,a0 q_→7≤q_:=fun q_ h_=>(a1 q_ h_).elim (hFG q_) (fun h2_=>Nat.le_trans hLs (Nat.le_trans (Nat.le_refl _) h2_));have K0:=(Ah.refl F w).trans a7 (fun x hlt hx=>(fun q_ h_ _=>h_) x hx hlt);clear a1;refine jG ?_;replace hb:=hb.keep a7 hbd;replace hL:=hL.keep a7 hFG;refine jF ?_ ?_
 ·intro hc15
  refine jG ?_;refine jR<|jC (LV ac freshN (by first|omega|decide)) ?_;rintro _ am ⟨a2,rfl,a3,a4,a9⟩;have ah:¬a2 b:=a4.not ad hb.lt;have aa:∀q_,a2 q_→q_<w.heap.size→F q_:=a4.inS a8 K0.size;have ai:∀q_,a2 q_→7≤q_:=fun q_ h_=>(a4 q_ h_).elim (ae q_) (fun h2_=>Nat.le_trans hLs (Nat.le_trans K0.size h2_));replace K0:=K0.trans a9 (fun x hlt hx=>a8 x hx hlt);clear a4;refine jG ?_;replace hb:=hb.keep a9 ad;replace hL:=hL.keep a9 ae;refine jF ?_ ?_
  ·intro hc22
   skip
   refine Aj.drawS [] [0,1,2,1003,4,2005,2006,7] ?_;intro an a5;replace hb:=hb.ext a5;refine jM (jb hb Jn) ?_;refine jG ?_;replace hL:=hL.ext a5;refine jU rfl<|jC (BW n _ hL) ?_;rintro _ ao ⟨rfl,a6⟩;replace hb:=hb.ext a6;refine jG ?_;replace a3:=(a3.ext a5).ext a6;refine jU rfl<|jC (SW a3 freshN (Ak n) (by first|omega|decide) (by first|omega|decide)) ?_;rintro _ ap ⟨af,rfl,aj,ag,ab⟩;replace K0:=(K0.ext a5).ext a6;have ak:∀q_,af q_→q_<w.heap.size→F q_:=ag.inS aa K0.size;replace K0:=K0.trans ab (fun x hlt hx=>aa x hx hlt);clear ag;replace hb:=hb.keep ab ah;refine jG ?_;refine jJ func124 ?_;have hEq:Cc room pl xs n=(Ez (Cj (CH room pl freshN xs) freshN) freshN (Ak n),Gi (Cj (CH room pl freshN xs) freshN) freshN (Ak n)):=by rw[Cc,if_pos hc15,if_pos hc22]
   rw[hEq];replace hL:=(hL.ext a6).keep ab ai;exact⟨_,rfl,af,rfl,aj,AK ak,K0⟩
  ·intro hc22
   skip
   refine jG ?_;refine jJ func124 ?_;have hEq:Cc room pl xs n=(Cb (CH room pl freshN xs) freshN,Cj (CH room pl freshN xs) freshN):=by rw[Cc,if_pos hc15,if_neg hc22]
   rw[hEq];exact⟨_,rfl,a2,rfl,a3,AK aa,K0⟩
 ·intro hc15
  refine jG ?_;refine jF ?_ ?_
  ·intro hc22
   exact absurd hc22 hc15
  ·intro hc22
   skip
   refine jG ?_;refine jJ func124 ?_;have hEq:Cc room pl xs n=(CN room pl freshN xs,CH room pl freshN xs):=by rw[Cc,if_neg hc15]
   rw[hEq];exact⟨_,rfl,a0,rfl,ac,AK a8,K0⟩
theorem VO (b d:Nat)(F:Nat→Prop)(room:Int)(pl:List PF)(a:Option Addr)(xs:List UInt8)(c:Nat)(a2:Option Addr)(ls:List Int)(c2:Nat)(i:Nat)(n:Int)(w:World)(hb:AA w b [jp d] 161)(hD:AF w d F room pl)(hbd:¬F b)(hL:AZ w)(hFG:∀q,F q→7≤q)(hs:As w a xs)(hdis:∀x,a=some x→¬F x.block)(hl:xs.length≤1073741824)(hs2:As w a2 ls)(hdis2:∀x,a2=some x→¬F x.block)(hl2:ls.length≤4294967295)(hok:HB ls)(hall:∀m∈ls,B7 pl (Ak m)=true)(hx:ls[i]? =some n):
  Calls prog 178 #[jp b,.slice a xs.length c,.slice a2 ls.length c2,.int .i64 ((i:Nat):Int)] w (AS (EX d F room w (Fm room pl xs n (ls.drop (i+1))).1 (Fm room pl xs n (ls.drop (i+1))).2)):=by
 have hLs:=hL.size;have hil:i<ls.length:=(List.getElem?_eq_some_iff.1 hx).1;have hnm:=Br n;refine Ae (n:=54) func178 rfl rfl rfl ?_;refine jG ?_;refine jF ?_ ?_
 ·intro hc13
  obtain⟨b1,b2,aE,aF,av,a0⟩:=hs2.eo i;have hc_6_lt:=a0.lt;obtain rfl:n=aE:=Option.some.inj (hx.symm.trans aF);refine Aj.drawS [] [0,1,2,1003,4,5,6,1007,2008,2009,10] ?_;intro b3 a4;have K0:=(a4:Aq w _).to (S:=F);replace hb:=hb.ext a4;replace a0:=a0.ext a4;refine jM (jb hb (jl a0 Jn)) ?_;refine LO ?_;refine FJ ?_;refine jP ?_ (hx:=by exact fun _=>(AI underlying185 ty3 rfl rfl av Zl));refine jG ?_;replace hL:=hL.ext a4;refine jU rfl<|jC (BW n _ hL) ?_;rintro _ b4 ⟨rfl,a5⟩;replace hb:=hb.ext a5;replace a0:=a0.ext a5;refine jG ?_;replace hD:=(hD.ext a4).ext a5;refine jU rfl<|jC (FL (Ii hD (Ak n) (by first|omega|decide)) (DU (Dz (hok.low n (List.mem_of_getElem? hx)).1 (hok.low n (List.mem_of_getElem? hx)).2) (hall n (List.mem_of_getElem? hx))) rfl) ?_;rintro _ b5 ⟨am,rfl,aw,aa,ab⟩;have aG:¬am b:=aa.not hbd hb.lt;replace K0:=K0.ext a5;have aH:∀q_,am q_→q_<w.heap.size→F q_:=aa.inS (fun q_ h_ _=>h_) K0.size;have aI:∀q_,am q_→7≤q_:=fun q_ h_=>(aa q_ h_).elim (hFG q_) (fun h2_=>Nat.le_trans hLs (Nat.le_trans K0.size h2_));replace K0:=K0.trans ab (fun x hlt hx=>(fun q_ h_ _=>h_) x hx hlt);clear aa;replace hb:=hb.keep ab hbd;replace a0:=a0.keep ab (fun h=>hdis2 _ av ((fun q_ h_ _=>h_) _ h hc_6_lt));refine jG ?_;refine jV (At (c:=((ls.length-1:Nat):Int)) (BE rfl rfl Zo Zo) Zo) ?_;refine jG ?_;replace hL:=(hL.ext a5).keep ab hFG;refine Aj.loop (ι:=Nat) (fun k ρ' w'=>∃Fk:Nat→Prop,Holds ρ' [(0,jp b),(2,.slice a2 ls.length c2),(3,.int .i64 ((i:Nat):Int)),(9,.int .i64 0),(10,.int .i64 ((k:Nat):Int))]∧Ah F w w'∧(AA w' b [jp d] 161)∧(AZ w')∧(AF w' d Fk room (Dk (A3 pl (Ak n)) (ls.drop (k+1))))∧(¬Fk b)∧(∀q_,Fk q_→q_<w.heap.size→F q_)∧(∀q_,Fk q_→7≤q_)∧(i≤k)∧(k<ls.length)) (fun k=>k) (ls.length-1) ?_ ?_
  ·rw[show Dk (A3 pl (Ak n)) (ls.drop (ls.length-1+1))=(A3 pl (Ak n))by rw[List.drop_eq_nil_of_le Zo,Kb]]
   refine⟨_,⟨rfl,rfl,rfl,rfl,rfl,trivial⟩,K0,hb,hL,aw,aG,aH,aI,?_,?_⟩
   ·omega
   ·omega
  clear hb aw;clear K0;rintro k b6 b7 ⟨Fk,ax,K0,hb,hL,ac,ay,ad,az,hik,hkl⟩ ih1;obtain⟨ρ₀,rfl⟩:=ax.ex;clear ax;refine LO ?_;refine Ex ?_;refine jW ?_ (hx:=by exact fun hg=>(Cq (Gk (Bf hg) rfl) Zd));refine jV (AJ rfl rfl rfl) ?_;refine jG ?_;refine jF ?_ ?_
  ·intro hc40
   obtain⟨m,hm⟩:∃m,ls[k]? =some m:=⟨_,List.getElem?_eq_getElem hkl⟩
   have hhas:=L5 (pl:=(A3 pl (Ak n))) (ns:=ls.drop (k+1)) (K5 (hall m (List.mem_of_getElem? hm)) (hok.ne hx hm Zo)) (fun j hj=>by
    obtain⟨q,hq⟩:=List.getElem?_of_mem hj;rw[List.getElem?_drop]at hq;exact fun e=>hok.ne hm hq Zo e.symm)
   refine jG ?_;have hnm:=Br m;obtain⟨b8,b9,aJ,aK,an,a1⟩:=hs2.eo k;have hc_31_lt:=a1.lt;obtain rfl:m=aJ:=Option.some.inj (hm.symm.trans aK);refine Aj.drawS [] [0,1,2,1003,4,5,6,1007,2008,2009,10] ?_;intro ba a6;replace a1:=(a1.keep K0 (hdis2 _ an)).ext a6;replace hb:=hb.ext a6;refine jM (jb hb (jl a1 Jn)) ?_;refine LO ?_;refine FJ ?_;refine jP ?_ (hx:=by exact fun _=>(AI underlying185 ty3 rfl rfl an Zl));refine jG ?_;replace hL:=hL.ext a6;refine jU rfl<|jC (BW m _ hL) ?_;rintro _ bb ⟨rfl,a7⟩;replace hb:=hb.ext a7;replace a1:=a1.ext a7;refine jG ?_;replace ac:=(ac.ext a6).ext a7;refine jU rfl<|jC (FL (Ii ac (Ak m) (by first|omega|decide)) (DU (Dz (hok.low m (List.mem_of_getElem? hm)).1 (hok.low m (List.mem_of_getElem? hm)).2) hhas) rfl) ?_;rintro _ bc ⟨ao,rfl,aL,ae,af⟩;have aM:¬ao b:=ae.not ay hb.lt;replace K0:=(K0.ext a6).ext a7;have aN:∀q_,ao q_→q_<w.heap.size→F q_:=ae.inS ad K0.size;have aO:∀q_,ao q_→7≤q_:=fun q_ h_=>(ae q_ h_).elim (az q_) (fun h2_=>Nat.le_trans hLs (Nat.le_trans K0.size h2_));replace K0:=K0.trans af (fun x hlt hx=>ad x hx hlt);clear ae;replace hb:=hb.keep af ay;replace a1:=a1.keep af (fun h=>hdis2 _ an (ad _ h hc_31_lt));refine jG ?_;refine jV (At (c:=((k-1:Nat):Int)) (BE rfl rfl Zo Zo) Zo) ?_;refine jG ?_;have e:Dk (A3 pl (Ak n)) (ls.drop (k-1+1))=A3 (Dk (A3 pl (Ak n)) (ls.drop (k+1))) (Ak m):=by rw[show k-1+1=k by omega,GW hm,IZ]
   refine ih1 (k-1) _ _ ?_ Zo;rw[e];replace hL:=(hL.ext a7).keep af az;refine⟨_,⟨rfl,rfl,rfl,rfl,rfl,trivial⟩,K0,hb,hL,aL,aM,aN,aO,?_,?_⟩
   ·omega
   ·omega
  ·intro hc40
   skip
   refine jG ?_;refine jJ func178 ?_;have hki:k=i:=by simp at hc40;omega
   subst hki;have hEq:Fm room pl xs n (ls.drop (k+1))=_:=Tk (List.eq_nil_of_length_eq_zero Zo);rw[hEq];exact⟨_,rfl,Fk,rfl,ac,AK ad,K0⟩
 ·intro hc13
  refine LO ?_;obtain⟨be,bg,aP,aQ,aR,aS⟩:=hs2.eo i;have hc_47_lt:=aS.lt;obtain rfl:n=aP:=Option.some.inj (hx.symm.trans aQ);refine jV (AI underlying185 ty3 rfl rfl aR Zl) ?_;refine jG ?_;refine jR<|jC (VN _ _ _ _ _ _ xs _ n _ hb hD hbd hL hFG hs Za Zo) ?_;rintro _ bh ⟨ag,rfl,ap,ah,aq⟩;have aT:¬ag b:=ah.not hbd hb.lt;have aA:∀q_,ag q_→q_<w.heap.size→F q_:=ah.inS (fun q_ h_ _=>h_) (Nat.le_refl _);have aU:∀q_,ag q_→7≤q_:=fun q_ h_=>(ah q_ h_).elim (hFG q_) (fun h2_=>Nat.le_trans hLs (Nat.le_trans (Nat.le_refl _) h2_));have K0:=(Ah.refl F w).trans aq (fun x hlt hx=>(fun q_ h_ _=>h_) x hx hlt);clear ah;refine Ex ?_;replace hb:=hb.keep aq hbd;replace hL:=hL.keep aq hFG;by_cases hse:(Cc room pl xs n).1=0
  ·rw[hse]
   refine jG ?_;refine jV (At (c:=((ls.length-1:Nat):Int)) (BE rfl rfl Zo Zo) Zo) ?_;refine jG ?_;refine Aj.loop (ι:=Nat) (fun k ρ' w'=>∃Fk:Nat→Prop,Holds ρ' [(0,jp b),(2,.slice a2 ls.length c2),(3,.int .i64 ((i:Nat):Int)),(9,.int .i64 0),(10,.int .i64 ((k:Nat):Int))]∧Ah F w w'∧(AA w' b [jp d] 161)∧(AZ w')∧(AF w' d Fk room (Dk (Cc room pl xs n).2 (ls.drop (k+1))))∧(¬Fk b)∧(∀q_,Fk q_→q_<w.heap.size→F q_)∧(∀q_,Fk q_→7≤q_)∧(i≤k)∧(k<ls.length)) (fun k=>k) (ls.length-1) ?_ ?_
   ·rw[show Dk (Cc room pl xs n).2 (ls.drop (ls.length-1+1))=(Cc room pl xs n).2 by rw[List.drop_eq_nil_of_le Zo,Kb]]
    refine⟨_,⟨rfl,rfl,rfl,rfl,rfl,trivial⟩,K0,hb,hL,ap,aT,aA,aU,?_,?_⟩
    ·omega
    ·omega
   clear hb ap;clear K0;rintro k bi bj ⟨Fk,aB,K0,hb,hL,ai,aC,aj,aD,hik,hkl⟩ ih2;obtain⟨ρ₀,rfl⟩:=aB.ex;clear aB;refine LO ?_;refine Ex ?_;refine jW ?_ (hx:=by exact fun hg=>(Cq (Gk (Bf hg) rfl) Zd));refine jV (AJ rfl rfl rfl) ?_;refine jG ?_;refine jF ?_ ?_
   ·intro hc40
    obtain⟨m,hm⟩:∃m,ls[k]? =some m:=⟨_,List.getElem?_eq_getElem hkl⟩
    have hhas:=L5 (pl:=(Cc room pl xs n).2) (ns:=ls.drop (k+1)) (Ra (hall m (List.mem_of_getElem? hm)) (Kd m) (hok.ne hx hm Zo)) (fun j hj=>by
     obtain⟨q,hq⟩:=List.getElem?_of_mem hj;rw[List.getElem?_drop]at hq;exact fun e=>hok.ne hm hq Zo e.symm)
    refine jG ?_;have hnm:=Br m;obtain⟨bk,bl,aV,aW,ar,a3⟩:=hs2.eo k;have hc_70_lt:=a3.lt;obtain rfl:m=aV:=Option.some.inj (hm.symm.trans aW);refine Aj.drawS [] [0,1,2,1003,4,5,6,1007,2008,2009,10] ?_;intro bm a8;replace a3:=(a3.keep K0 (hdis2 _ ar)).ext a8;replace hb:=hb.ext a8;refine jM (jb hb (jl a3 Jn)) ?_;refine LO ?_;refine FJ ?_;refine jP ?_ (hx:=by exact fun _=>(AI underlying185 ty3 rfl rfl ar Zl));refine jG ?_;replace hL:=hL.ext a8;refine jU rfl<|jC (BW m _ hL) ?_;rintro _ bn ⟨rfl,a9⟩;replace hb:=hb.ext a9;replace a3:=a3.ext a9;refine jG ?_;replace ai:=(ai.ext a8).ext a9;refine jU rfl<|jC (FL (Ii ai (Ak m) (by first|omega|decide)) (DU (Dz (hok.low m (List.mem_of_getElem? hm)).1 (hok.low m (List.mem_of_getElem? hm)).2) hhas) rfl) ?_;rintro _ bo ⟨au,rfl,aX,ak,al⟩;have aY:¬au b:=ak.not aC hb.lt;replace K0:=(K0.ext a8).ext a9;have aZ:∀q_,au q_→q_<w.heap.size→F q_:=ak.inS aj K0.size;have b0:∀q_,au q_→7≤q_:=fun q_ h_=>(ak q_ h_).elim (aD q_) (fun h2_=>Nat.le_trans hLs (Nat.le_trans K0.size h2_));replace K0:=K0.trans al (fun x hlt hx=>aj x hx hlt);clear ak;replace hb:=hb.keep al aC;replace a3:=a3.keep al (fun h=>hdis2 _ ar (aj _ h hc_70_lt));refine jG ?_;refine jV (At (c:=((k-1:Nat):Int)) (BE rfl rfl Zo Zo) Zo) ?_;refine jG ?_;have e:Dk (Cc room pl xs n).2 (ls.drop (k-1+1))=A3 (Dk (Cc room pl xs n).2 (ls.drop (k+1))) (Ak m):=by rw[show k-1+1=k by omega,GW hm,IZ]
    refine ih2 (k-1) _ _ ?_ Zo;rw[e];replace hL:=(hL.ext a9).keep al aD;refine⟨_,⟨rfl,rfl,rfl,rfl,rfl,trivial⟩,K0,hb,hL,aX,aY,aZ,b0,?_,?_⟩
    ·omega
    ·omega
   ·intro hc40
    skip
    refine jG ?_;refine jJ func178 ?_;have hki:k=i:=by simp at hc40;omega
    subst hki;have hEq:Fm room pl xs n (ls.drop (k+1))=_:=Rb (CX Zo) hse;rw[hEq];exact⟨_,rfl,Fk,rfl,ai,AK aj,K0⟩
  ·refine jG ?_
   refine jV (At (c:=((ls.length-1:Nat):Int)) (BE rfl rfl Zo Zo) Zo) ?_;refine jG ?_;refine Aj.unloop ?_;refine jG ?_;refine jV (AJ rfl rfl rfl) ?_;refine jG ?_;refine jF ?_ ?_
   ·intro hc40
    exact absurd hc40.2 hse
   ·intro hc40
    skip
    refine jG ?_;refine jJ func178 ?_;have hEq:=Tl (room:=room) (pl:=pl) (n:=n) (r:=ls.drop (i+1)) (bs:=xs) (CX Zo) hse;rw[hEq];exact⟨_,rfl,ag,rfl,ap,AK aA,K0⟩
end Go.Proofs.YtjkaicjmfgekjaaGreatDoor
namespace Go.Proofs.YtjkaicjmfgekjaaGreatDoor
open Go.Proofs.Tryz
attribute [local irreducible] RD RS Av RL RA RT CJ Aj
attribute [local irreducible] crcN B6 B3 E1 BV leL Cm Ak Az Di Dt DZ Em C4
def FA (acc:List (List UInt8))(p:List UInt8):List (List UInt8):=if p=[]then[]else acc++[p]
def B1 (acc:List RB)(r:RB):List RB:=if r.b=[]then[]else acc++[r]
theorem stepH_map : ∀ (ss : List RB) (rs : List RB), (ss.foldl B1 rs).map RB.b = (ss.map RB.b).foldl FA (rs.map RB.b)
  | [], _ => rfl
  | r :: ss, rs => by
    rw [List.foldl_cons, List.map_cons, List.foldl_cons, stepH_map ss]
    congr 1
    rw [B1, FA]
    split
    · rfl
    · rw [List.map_append]; rfl
theorem stepH_mem : ∀ (ss : List RB) (rs : List RB), ∀ r ∈ ss.foldl B1 rs, r ∈ rs ++ ss
  | [], rs, r, h => by simpa using h
  | x :: ss, rs, r, h => by
    rw [List.foldl_cons] at h
    have := stepH_mem ss _ r h
    rcases List.mem_append.1 this with h2 | h2
    · rw [B1] at h2
      split at h2
      · cases h2
      · rcases List.mem_append.1 h2 with h3 | h3
        · exact List.mem_append_left _ h3
        · simp only [List.mem_singleton] at h3; subst h3; simp
    · simp [h2]
theorem I1 {ss rs:List RB}{j:Nat}{r:RB}(h:ss[j]? =some r):(ss.take (j+1)).foldl B1 rs=B1 ((ss.take j).foldl B1 rs) r:=by
 obtain⟨hj,rfl⟩:=List.getElem?_eq_some_iff.1 h
 rw[List.take_succ_eq_append_getElem hj,List.foldl_append];rfl
theorem stepH_len : ∀ (ss : List RB) (rs : List RB), (ss.foldl B1 rs).length ≤ rs.length + ss.length
  | [], rs => Nat.le_refl _
  | r :: ss, rs => by
    rw [List.foldl_cons]
    have := stepH_len ss (B1 rs r)
    have h2 : (B1 rs r).length ≤ rs.length + 1 := by rw [B1]; split <;> simp
    simp only [List.length_cons]; omega
def Dl (room : Int) (pl : List PF) : List Int → List (List UInt8) → Int × List (List UInt8) × List PF
  | [], acc => (0, acc, pl)
  | n :: r, acc =>
    if (AG (AL pl (Ak n))).2 = [] then Dl room pl r ((AG (AL pl (Ak n))).1.foldl FA acc)
    else if (Fm room pl ((AL pl (Ak n)).take ((AL pl (Ak n)).length - (AG (AL pl (Ak n))).2.length)) n r).1 = 0
      then (0, (AG (AL pl (Ak n))).1.foldl FA acc, (Fm room pl ((AL pl (Ak n)).take ((AL pl (Ak n)).length - (AG (AL pl (Ak n))).2.length)) n r).2)
      else ((Fm room pl ((AL pl (Ak n)).take ((AL pl (Ak n)).length - (AG (AL pl (Ak n))).2.length)) n r).1, [], (Fm room pl ((AL pl (Ak n)).take ((AL pl (Ak n)).length - (AG (AL pl (Ak n))).2.length)) n r).2)
section
variable {room :Int}{pl:List PF}{l:List Int}{i:Nat}{n:Int}{acc:List (List UInt8)}
theorem Rc (h:l[i]? =some n)(h2:(AG (AL pl (Ak n))).2=[]):Dl room pl (l.drop i) acc=Dl room pl (l.drop (i+1)) ((AG (AL pl (Ak n))).1.foldl FA acc):=by rw[GW h,Dl,if_pos h2]
theorem PG (h:l[i]? =some n)(h2:(AG (AL pl (Ak n))).2≠ [])(h3:(Fm room pl ((AL pl (Ak n)).take ((AL pl (Ak n)).length-(AG (AL pl (Ak n))).2.length)) n (l.drop (i+1))).1=0):
  Dl room pl (l.drop i) acc=(0,(AG (AL pl (Ak n))).1.foldl FA acc,(Fm room pl ((AL pl (Ak n)).take ((AL pl (Ak n)).length-(AG (AL pl (Ak n))).2.length)) n (l.drop (i+1))).2):=by rw[GW h,Dl,if_neg h2,if_pos h3]
theorem PH (h:l[i]? =some n)(h2:(AG (AL pl (Ak n))).2≠ [])(h3:(Fm room pl ((AL pl (Ak n)).take ((AL pl (Ak n)).length-(AG (AL pl (Ak n))).2.length)) n (l.drop (i+1))).1≠0):
  Dl room pl (l.drop i) acc=((Fm room pl ((AL pl (Ak n)).take ((AL pl (Ak n)).length-(AG (AL pl (Ak n))).2.length)) n (l.drop (i+1))).1,[],(Fm room pl ((AL pl (Ak n)).take ((AL pl (Ak n)).length-(AG (AL pl (Ak n))).2.length)) n (l.drop (i+1))).2):=by rw[GW h,Dl,if_neg h2,if_neg h3]
theorem Rd (h:BK room pl)(s:ByteArray):(AL pl s).length≤16777216:=by
 have e:(AL pl s).length=EY pl s:=by rw[AL,EY];cases Cs pl s<;>rfl
 rw[e];exact I0 h s
end
theorem UW {w:World}{d:Nat}{F:Nat→Prop}{room:Int}{pl:List PF}(h:AF w d F room pl)(name:ByteArray)(hs:name.size≤4294967295)(he:Cb pl name=0):Calls prog 176 #[jp d,.string name] w
  (AS fun v w'=>∃a' c',v= .tuple #[.slice a' (AL pl name).length c',.int .i64 0]∧Af w' 5 a' c' (AL pl name)∧(∀b,own a' b→w.heap.size≤b)∧Aq w w'):=he▸VE h name hs
attribute [local irreducible] X
theorem UX (b d:Nat)(F:Nat→Prop)(room:Int)(pl:List PF)(w:World)(hb:AA w b [jp d] 161)(hD:AF w d F room pl)(hbd:¬F b)(hL:AZ w)(hFG:∀q,F q→7≤q):
  Calls prog 113 #[jp b] w (AS (fun v w'=>∃F',AF w' d F' room (Dl room pl (Az pl) []).2.2∧A8 w F F'∧Ah F w w'∧(((Dl room pl (Az pl) []).1=0∧∃a' c',∃rs:List RB,v= .tuple #[.slice a' (rs.map RB.h).length c',.int .i64 0]∧Af w' 98 a' c' (rs.map RB.h)∧Bt w' rs∧rs.map RB.b=(Dl room pl (Az pl) []).2.1∧(∀q,own a' q→w.heap.size≤q)∧(∀q,A2 rs q→w.heap.size≤q)∧(∀q,own a' q→¬A2 rs q)∧(∀q,own a' q→¬F' q)∧(∀q,A2 rs q→¬F' q))∨((Dl room pl (Az pl) []).1≠0∧v= .tuple #[.slice none 0 0,.int .i64 (Dl room pl (Az pl) []).1])))):=by
 have hLs:=hL.size;have hok:=hD.ok;have hlen:=hok.len;have hsl:=Dj pl;refine Ae (n:=71) func113 rfl rfl rfl ?_;have hR:Bt w ([]:List RB):=Bt.nil w;refine jG ?_;refine jR<|jC (OA _ _ _ _ _ _ hb hD hbd hL) ?_;rintro _ aS ⟨a2,ae,rfl,a0,ar,ah⟩;have aB:=Ao ar hD.own_lt;have aT:=Ao ar hR.own_lt;clear ar;have K0:=(ah:Aq w _).to (S:=F);refine jG ?_;replace hb:=hb.ext ah;replace hD:=hD.ext ah;replace hL:=hL.ext ah;replace hR:=hR.ext ah;refine Aj.loop (ι:=Nat) (fun i ρ' w'=>∃rs:List RB,∃ao:Option Addr,∃co:Nat,Holds ρ' [(0,jp b),(4,.slice ao ((rs.map RB.h).length) co),(5,.slice a2 ((Az pl).length) ae),(16,.slice a2 ((Az pl).length) ae),(17,.int .i64 (((Az pl).length:Nat):Int)),(18,.int .i64 ((i:Nat):Int))]∧Ah F w w'∧(AA w' b [jp d] 161)∧(AZ w')∧(AF w' d F room pl)∧(Af w' 3 a2 ae (Az pl))∧(Bt w' rs)∧(Af w' 98 ao co (rs.map RB.h))∧(¬A2 rs b)∧(∀q_,A2 rs q_→¬F q_)∧(∀q_,A2 rs q_→¬own a2 q_)∧(∀q_,A2 rs q_→¬own ao q_)∧(∀q_,A2 rs q_→q_<w.heap.size→F q_)∧(¬own ao b)∧(∀q_,own ao q_→¬F q_)∧(∀q_,own ao q_→¬own a2 q_)∧(∀q_,own ao q_→q_<w.heap.size→F q_)∧(∀q_,A2 rs q_→w.heap.size≤q_)∧(∀q_,own ao q_→w.heap.size≤q_)∧(i≤(Az pl).length)∧(rs.length≤i*16777216)∧(Dl room pl (Az pl) []=Dl room pl ((Az pl).drop i) (rs.map RB.b))) (fun i=>(Az pl).length-i) 0 ?_ ?_
 ·have aU:=Af.nil (α:=SH) aS 98
  refine⟨[],_,_,⟨rfl,rfl,rfl,rfl,rfl,rfl,trivial⟩,K0,hb,hL,hD,a0,hR,aU,(fun⟨_,h_,_⟩=>absurd h_ Zs),(fun q_ ⟨_,h_,_⟩ _=>absurd h_ Zs),(Zf aT),(fun q_ h1 h2=>(fun q_ h1 _=>Ac q_ h1) q_ h2 h1),(fun q_ ⟨_,h_,_⟩ _=>absurd h_ Zs),(Ac b),(fun q_ h1 _=>Ac q_ h1),(fun q_ h1 _=>Ac q_ h1),(fun q_ h1 _=>absurd h1 (Ac q_)),(fun q_ ⟨_,h_,_⟩=>absurd h_ Zs),(fun q_ h1=>absurd h1 (Ac q_)),?_,?_,?_⟩
  ·omega
  ·exact Nat.le_refl _
  ·rfl
 clear hb hD hR a0;clear K0;rintro i bF bG ⟨rs,ao,co,aC,K0,hb,hL,hD,a0,al,a3,aV,aD,aW,aE,aX,aY,aF,aZ,b0,aG,aH,hi,hrl,hRP⟩ ih1;obtain⟨ρ₀,rfl⟩:=aC.ex;clear aC;refine jG ?_;refine jF ?_ ?_
 ·intro hc19
  obtain⟨bH,bI,n,hn,bJ,bK⟩:=a0.sl.eo i;refine jG ?_;have hnm:=Br n;have hbl:=Rd hok (Ak n);refine Aj.drawS [] [0,1,2,1003,4,2005,2006,7,8,9,10,11] ?_;intro bL ab;replace hb:=hb.ext ab;refine jM (jb hb Jn) ?_;refine jG ?_;replace hL:=hL.ext ab;refine jU rfl<|jC (BW n _ hL) ?_;rintro _ bM ⟨rfl,ac⟩;replace hb:=hb.ext ac;refine jG ?_;replace hD:=(hD.ext ab).ext ac;refine jU rfl<|jC (UW hD (Ak n) (by first|omega|decide) (GV (List.mem_of_getElem? hn))) ?_;rintro _ bN ⟨am,aI,rfl,a1,au,ad⟩;have b1:=Ao au hD.own_lt;replace a3:=(a3.ext ab).ext ac;have b2:=Ao au a3.own_lt;clear au;replace hb:=hb.ext ad;refine jG ?_;refine Aj.condF rfl ?_;refine jG ?_;refine jR<|jC (Tj _ _ _ _ (Af.slo a1) Zo) ?_;rintro _ b3 ⟨an,aJ,ss,rfl,a4,b4,b5,b6,af,bO,a8⟩;replace a3:=a3.ext ad;have b7:=Ao b6 a3.own_lt;have b8:=Ap af hb.lt;replace hD:=hD.ext ad;have b9:=Ao af hD.own_lt;replace a0:=((a0.ext ab).ext ac).ext ad;have ba:=Ao af a0.own_lt;have bb:=Ao af a3.own_lt;replace K0:=((K0.ext ab).ext ac).ext ad;have bc:∀q_,A2 ss q_→q_<w.heap.size→F q_:=SQ K0.size af;have be:=A1 K0.size af;have hmsX:=b5;replace al:=(((al.ext ab).ext ac).ext ad).ext a8;have hJ:Bt b3 (rs++ss):=Bt.app al b4;have bg:¬A2 (rs++ss) b:=fun x_=>(recs_case _ x_).elim aV (fun y_=>b8 y_);have bh:∀q_,A2 (rs++ss) q_→¬F q_:=fun q_ x_ z_=>(recs_case _ x_).elim (fun y_=>aD q_ y_ z_) (fun y_=>(fun y_=>b9 q_ y_ z_) y_);have bi:∀q_,A2 (rs++ss) q_→¬own a2 q_:=fun q_ x_ z_=>(recs_case _ x_).elim (fun y_=>aW q_ y_ z_) (fun y_=>(fun y_=>ba q_ y_ z_) y_);have bj:∀q_,A2 (rs++ss) q_→¬own ao q_:=fun q_ x_ z_=>(recs_case _ x_).elim (fun y_=>aE q_ y_ z_) (fun y_=>(fun y_=>bb q_ y_ z_) y_);have bk:∀q_,A2 (rs++ss) q_→q_<w.heap.size→F q_:=fun q_ x_ hl_=>(recs_case _ x_).elim (fun y_=>aX q_ y_ hl_) (fun y_=>(fun y_=>bc q_ y_ hl_) y_);have bl:∀q_,A2 (rs++ss) q_→w.heap.size≤q_:=fun q_ x_=>(recs_case _ x_).elim (fun y_=>aG q_ y_) (fun y_=>(fun y_=>be q_ y_) y_);have hrsl:(rs.map RB.h).length=rs.length:=List.length_map ..;have hssl:(ss.map RB.h).length=ss.length:=List.length_map ..;have hfl:=framesR_len (AL pl (Ak n));have hssm:ss.length=(AG (AL pl (Ak n))).1.length:=by rw[←hmsX,List.length_map]
  refine jG ?_;replace hL:=((hL.ext ac).ext ad).ext a8;replace hb:=hb.ext a8;replace hD:=hD.ext a8;replace a0:=a0.ext a8;replace a3:=a3.ext a8;replace a1:=a1.ext a8;replace K0:=K0.ext a8;refine Aj.loop (ι:=Nat) (fun j ρ' w'=>∃aj:Option Addr,∃cj:Nat,Holds ρ' [(0,jp b),(4,.slice aj (((List.foldl B1 rs (ss.take j)).map RB.h).length) cj),(5,.slice a2 ((Az pl).length) ae),(6,.int .i64 ((i:Nat):Int)),(8,.slice am ((AL pl (Ak n)).length) aI),(11,.int .i64 (((AL pl (Ak n)).length-(AG (AL pl (Ak n))).2.length:Nat):Int)),(16,.slice a2 ((Az pl).length) ae),(17,.int .i64 (((Az pl).length:Nat):Int)),(18,.int .i64 ((i:Nat):Int)),(19,.bool (decide (((i:Nat):Int)<(((Az pl).length:Nat):Int)))),(41,.slice an ((ss.map RB.h).length) aJ),(42,.int .i64 (((ss.map RB.h).length:Nat):Int)),(43,.int .i64 ((j:Nat):Int))]∧Ah F w w'∧(AA w' b [jp d] 161)∧(AZ w')∧(AF w' d F room pl)∧(Af w' 3 a2 ae (Az pl))∧(Af w' 5 am aI (AL pl (Ak n)))∧(Af w' 98 an aJ (ss.map RB.h))∧(Bt w' (rs++ss))∧(Af w' 98 aj cj ((List.foldl B1 rs (ss.take j)).map RB.h))∧(¬own aj b)∧(∀q_,own aj q_→¬F q_)∧(∀q_,own aj q_→¬own a2 q_)∧(∀q_,own aj q_→¬own am q_)∧(∀q_,own aj q_→¬own an q_)∧(∀q_,own aj q_→¬A2 (rs++ss) q_)∧(∀q_,own aj q_→q_<w.heap.size→F q_)∧(∀q_,own aj q_→w.heap.size≤q_)∧(j≤ss.length)) (fun j=>ss.length-j) 0 ?_ ?_
  ·refine⟨_,_,⟨rfl,rfl,rfl,rfl,rfl,rfl,rfl,rfl,rfl,rfl,rfl,rfl,rfl,trivial⟩,K0,hb,hL,hD,a0,a1,a4,hJ,a3,aY,aF,aZ,(Zf b2),(Zf b7),(Zf bj),b0,aH,?_⟩
   ·omega
  clear hb hD a0 a3 a1 a4 hJ;clear K0;rintro j bP av ⟨aj,cj,aK,K0,hb,hL,hD,a0,a1,a4,hJ,a5,aw,ai,ax,aL,aM,ay,az,ap,hj⟩ ih2;obtain⟨ρ₀,rfl⟩:=aK.ex;clear aK;refine jG ?_;refine jF ?_ ?_
  ·intro hc44
   obtain⟨bQ,bR,hh_,hh,bS,bT⟩:=a4.sl.eo j;obtain⟨r,hr,hre,hro⟩:=Te (rs:=ss) (w:=av) (Bt.sub hJ (fun r hr=>List.mem_append_right _ hr)) hh;subst hre;have hrl_:r.h.len=r.b.length:=rfl;refine jG ?_;refine jF ?_ ?_
   ·intro hc49
    refine jG ?_;refine jV (At (c:=((j+1:Nat):Int)) (An rfl rfl Zo Zo) rfl) ?_;refine jG ?_;have e:=(I1 (rs:=rs) hr).trans (if_pos (show r.b=[]from List.eq_nil_of_length_eq_zero Zo));refine ih2 (j+1) _ _ ?_ Zo;rw[e];have bm:=Af.nil (α:=SH) av 98;refine⟨_,_,⟨rfl,rfl,rfl,rfl,rfl,rfl,rfl,rfl,rfl,rfl,rfl,rfl,rfl,trivial⟩,K0,hb,hL,hD,a0,a1,a4,hJ,bm,(Ac b),(fun q_ h1 _=>Ac q_ h1),(fun q_ h1 _=>Ac q_ h1),(fun q_ h1 _=>Ac q_ h1),(fun q_ h1 _=>Ac q_ h1),(fun q_ h1 _=>Ac q_ h1),(fun q_ h1 _=>absurd h1 (Ac q_)),(fun q_ h1=>absurd h1 (Ac q_)),?_⟩
    ·omega
   ·intro hc49
    have hfln:(List.foldl B1 rs (ss.take j)).length≤rs.length+j:=by have:=stepH_len (ss.take j) rs;rw[List.length_take]at this;omega
    refine jG ?_;refine jR<|Av.buildSlice ([⟨r.a,r.b.length,r.c⟩]:List SH) underlying130 ty98 rfl rfl Ze ?_;intro bU bV bn bo a6;clear bn;replace a5:=a5.ext a6;refine jR<|Av.append (xs:=(List.foldl B1 rs (ss.take j)).map RB.h) (ys:=([⟨r.a,r.b.length,r.c⟩]:List SH)) underlying130 ty98 rfl rfl rfl a5 bo.sl (by rw[List.length_map];simp only[List.length_cons,List.length_nil];omega) Zd ?_;intro a9 bW bX aN aa a7 bp;replace hb:=hb.ext a6;have bq:¬own a9 b:=a7.not aw hb.lt;replace hD:=hD.ext a6;have bs:∀q_,own a9 q_→¬F q_:=a7.apart ai hD.own_lt;replace a0:=a0.ext a6;have bt:∀q_,own a9 q_→¬own a2 q_:=a7.apart ax a0.own_lt;replace a1:=a1.ext a6;have bu:∀q_,own a9 q_→¬own am q_:=a7.apart aL a1.own_lt;replace a4:=a4.ext a6;have bv:∀q_,own a9 q_→¬own an q_:=a7.apart aM a4.own_lt;replace hJ:=hJ.ext a6;have bw:∀q_,own a9 q_→¬A2 (rs++ss) q_:=a7.apart ay hJ.own_lt;replace K0:=K0.ext a6;have bx:∀q_,own a9 q_→q_<w.heap.size→F q_:=a7.inS az K0.size;have bz:∀q_,own a9 q_→w.heap.size≤q_:=a7.ge ap K0.size;replace K0:=K0.trans aa (fun x hlt hx=>az x hx hlt);clear a7;clear bp;have eRR:((List.foldl B1 rs (ss.take j)).map RB.h)++([⟨r.a,r.b.length,r.c⟩]:List SH)=(List.foldl B1 rs (ss.take (j+1))).map RB.h:=by rw[I1 hr,B1,if_neg (CX Zo),List.map_append];rfl
    rw[eRR]at aN⊢;refine jG ?_;refine jV (At (c:=((j+1:Nat):Int)) (An rfl rfl Zo Zo) rfl) ?_;refine jG ?_;refine ih2 (j+1) _ _ ?_ Zo;replace hL:=(hL.ext a6).keep aa (fun q_ hq_=>Nat.le_trans hLs (ap q_ hq_));replace hb:=hb.keep aa aw;replace hD:=hD.keepO aa (Zf ai);replace a0:=a0.keepO aa (Zf ax);replace a1:=a1.keepO aa (Zf aL);replace a4:=a4.keepO aa (Zf aM);replace hJ:=hJ.keepO aa (Zf ay);refine⟨_,_,⟨rfl,rfl,rfl,rfl,rfl,rfl,rfl,rfl,rfl,rfl,rfl,rfl,rfl,trivial⟩,K0,hb,hL,hD,a0,a1,a4,hJ,aN,bq,bs,bt,bu,bv,bw,bx,bz,?_⟩
    ·omega
  ·intro hc44
   refine jG ?_;have hje:j=ss.length:=by omega
   subst hje;rw[List.take_length]at a5;have hR2:Bt av (List.foldl B1 rs ss):=Bt.sub hJ (stepH_mem ss rs);have hRB:(List.foldl B1 rs ss).map RB.b=(AG (AL pl (Ak n))).1.foldl FA (rs.map RB.b):=by rw[stepH_map,hmsX]
   have hfl2:=stepH_len ss rs;rw[show((List.foldl B1 rs (ss.take ss.length)).map RB.h).length=((List.foldl B1 rs ss).map RB.h).length by rw[List.take_length]];have bA:¬A2 (List.foldl B1 rs ss) b:=fun x_=>bg (E2 (stepH_mem ss rs) _ x_);have aA:∀q_,A2 (List.foldl B1 rs ss) q_→¬F q_:=fun q_ x_ z_=>(fun y_=>bh q_ y_ z_) (E2 (stepH_mem ss rs) _ x_);have bB:∀q_,A2 (List.foldl B1 rs ss) q_→¬own a2 q_:=fun q_ x_ z_=>(fun y_=>bi q_ y_ z_) (E2 (stepH_mem ss rs) _ x_);have aO:∀q_,A2 (List.foldl B1 rs ss) q_→¬own aj q_:=fun q_ x_ z_=>(fun y_=>(Zf ay) q_ y_ z_) (E2 (stepH_mem ss rs) _ x_);have bC:∀q_,A2 (List.foldl B1 rs ss) q_→q_<w.heap.size→F q_:=fun q_ x_ hl_=>(fun y_=>bk q_ y_ hl_) (E2 (stepH_mem ss rs) _ x_);have aP:∀q_,A2 (List.foldl B1 rs ss) q_→w.heap.size≤q_:=fun q_ x_=>(fun y_=>bl q_ y_) (E2 (stepH_mem ss rs) _ x_);refine jG ?_;refine jF ?_ ?_
   ·intro hc58
    have hcapb:=a1.le_cap;refine jG ?_;refine jV (Gl (m':=((AL pl (Ak n)).take ((AL pl (Ak n)).length-(AG (AL pl (Ak n))).2.length)).length) (BI underlying98 ty5 rfl rfl Zo) Zt) ?_;refine jG ?_;have hall:∀m∈Az pl,B7 pl (Ak m)=true:=fun m hm=>(B5.1 hm).2.2;refine jR<|jC (VO _ _ _ _ _ _ ((AL pl (Ak n)).take ((AL pl (Ak n)).length-(AG (AL pl (Ak n))).2.length)) _ _ (Az pl) _ i n _ hb hD hbd hL hFG (a1.sl.take ((AL pl (Ak n)).length-(AG (AL pl (Ak n))).2.length)) (fun x_ hx_=>b1 _ ⟨x_,hx_,rfl⟩) Zt a0.sl (fun x_ hx_=>aB _ ⟨x_,hx_,rfl⟩) Zo (Tg hok) hall hn) ?_;rintro _ bY ⟨ak,rfl,aQ,aq,ag⟩;have bD:∀q_,ak q_→¬own aj q_:=aq.apart (Zf ai) a5.own_lt;have bE:∀q_,ak q_→¬A2 (List.foldl B1 rs ss) q_:=aq.apart (Zf aA) hR2.own_lt;have aR:∀q_,ak q_→q_<w.heap.size→F q_:=aq.inS (fun q_ h_ _=>h_) K0.size;replace K0:=K0.trans ag (fun x hlt hx=>(fun q_ h_ _=>h_) x hx hlt);clear aq;have hfne:(AG (AL pl (Ak n))).2≠ []:=CX Zo;refine jG ?_;replace hb:=hb.keep ag hbd;replace hL:=hL.keep ag hFG;replace a0:=a0.keepO ag aB;replace a5:=a5.keepO ag ai;replace hR2:=hR2.keepO ag aA;refine jF ?_ ?_
    ·intro hc67
     refine jG ?_;refine jK func113 ?_;have hEq:=hRP.trans (PH hn hfne hc67);rw[hEq];exact⟨_,rfl,ak,aQ,AK aR,K0,.inr ⟨hc67,rfl⟩⟩
    ·intro hc67
     refine jG ?_;refine jK func113 ?_;have hEq:=hRP.trans (PG hn hfne hc67);rw[hEq];exact⟨_,rfl,ak,aQ,AK aR,K0,.inl ⟨rfl,aj,cj,_,rfl,a5,hR2,hRB,ap,aP,(Zf aO),(Zf bD),(Zf bE)⟩⟩
   ·intro hc58
    refine jG ?_;refine jV (At (c:=((i+1:Nat):Int)) (An rfl rfl Zo Zo) rfl) ?_;refine jG ?_;have hfe:(AG (AL pl (Ak n))).2=[]:=List.eq_nil_of_length_eq_zero Zo;have hgo:=hRP.trans (Rc hn hfe);rw[←hRB]at hgo;refine ih1 (i+1) _ _ ?_ Zo;refine⟨List.foldl B1 rs ss,_,_,⟨rfl,rfl,rfl,rfl,rfl,rfl,trivial⟩,K0,hb,hL,hD,a0,hR2,a5,bA,aA,bB,aO,bC,aw,ai,ax,az,aP,ap,?_,?_,?_⟩
    ·omega
    ·omega
    ·exact hgo
 ·intro hc19
  refine jG ?_;refine jK func113 ?_;have hie:i=(Az pl).length:=by omega
  subst hie;rw[List.drop_length]at hRP;rw[hRP];exact⟨_,rfl,F,hD,AK (fun q_ h_ _=>h_),K0,.inl ⟨rfl,ao,co,_,rfl,a3,al,rfl,aH,aG,(Zf aE),aF,aD⟩⟩
end Go.Proofs.YtjkaicjmfgekjaaGreatDoor
