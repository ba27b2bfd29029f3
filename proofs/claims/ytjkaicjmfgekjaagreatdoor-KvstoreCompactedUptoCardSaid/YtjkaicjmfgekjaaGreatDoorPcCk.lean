/-
  Ck, Cl, Cm, Cn
-/
import Derived.Test.YtjkaicjmfgekjaaGreatDoorPcCf
import Derived.Test.YtjkaicjmfgekjaaGreatDoorPcRune
import Derived.Shelf.Small.Strs
set_option linter.all false
set_option maxRecDepth 100000
set_option maxHeartbeats 4000000
namespace Go.Proofs.YtjkaicjmfgekjaaGreatDoor
open Go.Proofs.Tryz
attribute [local irreducible] RD RS AB RL RA RT CB Ai
section
attribute [local irreducible] AD DP Cx BI By Ca B6 Jo JX Cm AW Cu Va JN Ch setM FB L3 TU uniq Bh C0 X
def Zb (am:Option Addr)(ms:List Ab)(cm:Nat)(ac:Option Addr)(cl:List Ah)(cc:Nat)(am2:Option Addr)(ms2:List Ab)(cm2:Nat)(ac2:Option Addr)(cl2:List Ah)(cc2:Nat)(w:World)(hs:Ax w am ms)(ht:Ax w ac cl)(hs2:Ax w am2 ms2)(ht2:Ax w ac2 cl2)(hl:ms.length<=4294967295)(hl2:cl.length<=4294967295)(hl3:ms2.length<=4294967295)(hl4:cl2.length<=4294967295):
  Calls prog 148 #[.agg #[.slice am ms.length cm,.slice ac cl.length cc],.agg #[.slice am2 ms2.length cm2,.slice ac2 cl2.length cc2]] w (AU (λv w'=>∃a1 c1 a2 c2,v= .tuple #[.agg #[.slice a1 (AW ms cl ms2 cl2).2.1.length c1,.slice a2 (AW ms cl ms2 cl2).2.2.length c2],.int .i64 (AW ms cl ms2 cl2).1]/\Af w' 46 a1 c1 (AW ms cl ms2 cl2).2.1/\Af w' 73 a2 c2 (AW ms cl ms2 cl2).2.2/\(∀q,own a1 q->¬own a2 q)/\(∀q,own a1 q->w.heap.size<=q)/\(∀q,own a2 q->w.heap.size<=q)/\As w w')):=by
 refine kD (n:=30) func148 ?_;refine kQ ?_;intro aP bG aQ a0 b5;have:w.heap.size<=aP:=aQ;clear aQ;have K0:=(b5:As w _);refine kQ ?_;intro b6 bH av a3 aR;have bI:=Ak a0.lt av;have:=Aaa K0.size av;clear av;refine kR ?_;intro bJ bK ak a4 aw;replace a0:=a0.ext aR;have bL:=Ak a0.lt ak;have bM:=Ak a3.lt ak;replace K0:=K0.ext aR;have:=Aaa K0.size ak;clear ak;replace a0:=a0.ext aw;refine jG ?_;replace K0:=K0.ext aw;refine kS (U8 am ms cm ac cl cc _ (hs.ext K0) (ht.ext K0) Zo Zo) ?_;rintro _ bN ⟨rfl,al⟩;replace a3:=(a3.ext aw).ext al;refine jG ?_;replace K0:=K0.ext al;refine RL.gcall (vals:=[.agg #[.slice am2 ms2.length cm2,.slice ac2 cl2.length cc2]]) (Cc rfl rfl rfl rfl) en79.h (λhg=>(C2 (B4 hg) HC)) (λhg=>(U8 am2 ms2 cm2 ac2 cl2 cc2 _ (hs2.ext K0) (ht2.ext K0) Zo Zo)) ?_;intro bO an;refine jG ?_;refine kE (Er rfl rfl rfl) ?_;replace a0:=(a0.ext al).ext an;replace a4:=(a4.ext al).ext an;replace a3:=a3.ext an;replace K0:=K0.ext an;refine jF ?_ ?_
 ·intro hc13;refine jG ?_;refine jV (AO (cells:=#[.slice none 0 0,.slice none 0 0]) Zk) ?_;refine jR<|jS a4 ?_;intro bP a4 ax;refine jG ?_;refine Ai.retCT (x:= .int .i64 30) (cs:=#[.slice none 0 0,.slice none 0 0]) func148 rfl ty31 rfl rfl a4.cl rfl ?_;rw[Pa (by intro h_;simp[h_.1,h_.2]at hc13)];replace a0:=a0.kp ax;replace a3:=a3.kp ax;replace K0:=K0.n1 ax;exact⟨_,rfl,none,0,none,0,rfl,Af.nil _ _,Af.nil _ _,λ_ h_=>absurd h_ (Ad _),λ_ h_=>absurd h_ (Ad _),λ_ h_=>absurd h_ (Ad _),K0⟩
 intro hc13;have hj:BL ms cl=true/\BL ms2 cl2=true:=by simpa using hc13
 have hj1:=Fy.1 hj.1;have hj2:=Fy.1 hj.2;have hjl1:=hj1.1;have hjl2:=hj1.2.1;have hjl3:=hj2.1;have hjl4:=hj2.2.1;refine jG ?_;refine Ai.drawT [] (m:=17) Zk rfl ?_;intro bQ ao;refine⟨λw'=>AC w' aP [.slice am ms.length cm,.slice ac cl.length cc] 31/\AC w' b6 [.slice am2 ms2.length cm2,.slice ac2 cl2.length cc2] 31/\True,?_⟩;replace a0:=a0.ext ao;replace a3:=a3.ext ao;refine RT.takeP 0 rfl Zk (.inr ⟨a0,a3,trivial⟩) (λ_=>(JB (o':=0) underlying31 rfl ty28 rfl rfl rfl)) ?_;refine RT.take 1 rfl Zk ⟨a0,a3,trivial⟩ (by rintro _ ⟨a0,a3,-⟩;exact(HM ty28 rfl rfl (a0.cl.field (i:=0) rfl))) ?_;refine RT.takeP 2 rfl Zk (.inr ⟨a0,a3,trivial⟩) (λ_=>(JB (o':=0) underlying31 rfl ty28 rfl rfl rfl)) ?_;refine RT.take 3 rfl Zk ⟨a0,a3,trivial⟩ (by rintro _ ⟨a0,a3,-⟩;exact(HM ty28 rfl rfl (a3.cl.field (i:=0) rfl))) ?_;refine RT.takeP 6 rfl Zk (.inr ⟨a0,a3,trivial⟩) (λ_=>(JB (o':=1) underlying31 rfl ty29 rfl rfl rfl)) ?_;refine RT.take 7 rfl Zk ⟨a0,a3,trivial⟩ (by rintro _ ⟨a0,a3,-⟩;exact(HM ty29 rfl rfl (a0.cl.field (i:=1) rfl))) ?_;refine RT.takeP 8 rfl Zk (.inr ⟨a0,a3,trivial⟩) (λ_=>(JB (o':=1) underlying31 rfl ty29 rfl rfl rfl)) ?_;refine RT.take 9 rfl Zk ⟨a0,a3,trivial⟩ (by rintro _ ⟨a0,a3,-⟩;exact(HM ty29 rfl rfl (a3.cl.field (i:=1) rfl))) ?_;replace a4:=a4.ext ao;replace K0:=K0.ext ao;refine RT.fork2 4 10 Zk ?_ ?_
 ·refine CB.st rfl<|AB.buildSlice ([⟨am,ms.length,cm⟩,⟨am2,ms2.length,cm2⟩]:List SH) underlying53 ty28 rfl rfl Ze ?_
  intro bR bS aS a5 ap;have b7:=Ay (Du aS) a4.lt;clear aS;replace a0:=a0.ext ap;replace a3:=a3.ext ap;refine⟨.inr ⟨a0,a3,trivial⟩,?_⟩;replace a4:=a4.ext ap;replace K0:=K0.ext ap;refine RT.fork2 5 10 Zk ?_ ?_
  ·refine CB.st rfl<|jC (Qx _ _ _ _ _ _ a5.sl (D9.two rfl (hs.ext K0) rfl (hs2.ext K0)) Zo) ?_
   rintro _ bT ⟨bU,bV,rfl,ay,b8,a9⟩;clear b8;replace a0:=a0.ext a9;replace a3:=a3.ext a9;refine⟨.inr ⟨a0,a3,trivial⟩,?_⟩;refine RT.st 10 rfl Zk rfl<|AB.buildSlice ([⟨ac,cl.length,cc⟩,⟨ac2,cl2.length,cc2⟩]:List SH) underlying295 ty29 rfl rfl Ze ?_;intro bW bX b9 ba a6;clear b9;replace a0:=a0.ext a6;replace a3:=a3.ext a6;refine⟨.inr ⟨a0,a3,trivial⟩,?_⟩;replace K0:=(K0.ext a9).ext a6;refine RT.st 11 rfl Zk rfl<|jC (Qy _ _ _ _ _ _ ba.sl (D9.two rfl (ht.ext K0) rfl (ht2.ext K0)) Zo) ?_;rintro _ bY ⟨bZ,c0,rfl,bb,bc,a7⟩;clear bc;replace a0:=a0.ext a7;replace a3:=a3.ext a7;refine⟨.inr ⟨a0,a3,trivial⟩,?_⟩;replace ay:=(ay.ext a6).ext a7;refine RT.st 12 rfl Zk rfl<|jC (NP _ (ms++ms2) _ _ (cl++cl2) _ _ ay.sl bb.sl Zn) ?_;rintro _ c3 ⟨aT,aU,aV,aW,rfl,az,aA,be,aB,aC,aa⟩;replace a4:=((a4.ext a9).ext a6).ext a7;have bg:=Ay aB a4.lt;replace K0:=K0.ext a7;have bh:=Bg K0.size aB;have bi:=Ay aC a4.lt;have bj:=Bg K0.size aC;clear aB aC;replace a0:=a0.ext aa;replace a3:=a3.ext aa;refine⟨.inr ⟨a0,a3,trivial⟩,?_⟩;refine RT.takeP 13 rfl Zk (.inr ⟨a0,a3,trivial⟩) (λ_=>(Ec rfl rfl)) ?_;refine RT.takeP 14 rfl Zk (.inr ⟨a0,a3,trivial⟩) (λ_=>(Ec rfl rfl)) ?_;replace a4:=a4.ext aa;refine RT.st 15 rfl Zk rfl<|jS a4 ?_;intro c4 a4 a8;replace a0:=a0.kp a8;replace a3:=a3.kp a8;refine⟨.inr ⟨a0,a3,trivial⟩,?_⟩;refine RT.takeP 16 rfl Zk (.inr ⟨a0,a3,trivial⟩) (λ_=>(Fd rfl)) ?_;refine RT.done Zk ?_;refine Ai.retCT (x:= .int .i64 ((Cm (ms++ms2) (cl++cl2)).1)) (cs:=#[.slice aT ((Cm (ms++ms2) (cl++cl2)).2.1.length) aU,.slice aV ((Cm (ms++ms2) (cl++cl2)).2.2.length) aW]) func148 rfl ty31 rfl rfl a4.cl rfl ?_;rw[Ge hj.1 hj.2];replace a5:=((((a5.ext a9).ext a6).ext a7).ext aa).kO a8 (Aa b7);replace K0:=(K0.ext aa).n1 a8;replace az:=az.kO a8 (Aa bg);replace aA:=aA.kO a8 (Aa bi);exact⟨_,rfl,aT,aU,aV,aW,rfl,az,aA,be,bh,bj,K0⟩
  refine CB.st rfl<|AB.buildSlice ([⟨ac,cl.length,cc⟩,⟨ac2,cl2.length,cc2⟩]:List SH) underlying295 ty29 rfl rfl Ze ?_
  intro c5 c6 bk aD ab;clear bk;replace a0:=a0.ext ab;replace a3:=a3.ext ab;refine⟨.inr ⟨a0,a3,trivial⟩,?_⟩;replace a5:=a5.ext ab;replace K0:=K0.ext ab;refine RT.st 5 rfl Zk rfl<|jC (Qx _ _ _ _ _ _ a5.sl (D9.two rfl (hs.ext K0) rfl (hs2.ext K0)) Zo) ?_;rintro _ c7 ⟨c8,c9,rfl,aE,bl,ad⟩;clear bl;replace a0:=a0.ext ad;replace a3:=a3.ext ad;refine⟨.inr ⟨a0,a3,trivial⟩,?_⟩;replace aD:=aD.ext ad;replace K0:=K0.ext ad;refine RT.st 11 rfl Zk rfl<|jC (Qy _ _ _ _ _ _ aD.sl (D9.two rfl (ht.ext K0) rfl (ht2.ext K0)) Zo) ?_;rintro _ ca ⟨cb,cd,rfl,bm,bn,ae⟩;clear bn;replace a0:=a0.ext ae;replace a3:=a3.ext ae;refine⟨.inr ⟨a0,a3,trivial⟩,?_⟩;replace aE:=aE.ext ae;refine RT.st 12 rfl Zk rfl<|jC (NP _ (ms++ms2) _ _ (cl++cl2) _ _ aE.sl bm.sl Zn) ?_;rintro _ ce ⟨aX,aY,aZ,b0,rfl,aF,aG,bo,aH,aI,aq⟩;replace a4:=((a4.ext ab).ext ad).ext ae;have bp:=Ay aH a4.lt;replace K0:=K0.ext ae;have bq:=Bg K0.size aH;have bs:=Ay aI a4.lt;have bt:=Bg K0.size aI;clear aH aI;replace a0:=a0.ext aq;replace a3:=a3.ext aq;refine⟨.inr ⟨a0,a3,trivial⟩,?_⟩;refine RT.takeP 13 rfl Zk (.inr ⟨a0,a3,trivial⟩) (λ_=>(Ec rfl rfl)) ?_;refine RT.takeP 14 rfl Zk (.inr ⟨a0,a3,trivial⟩) (λ_=>(Ec rfl rfl)) ?_;replace a4:=a4.ext aq;refine RT.st 15 rfl Zk rfl<|jS a4 ?_;intro cf a4 af;replace a0:=a0.kp af;replace a3:=a3.kp af;refine⟨.inr ⟨a0,a3,trivial⟩,?_⟩;refine RT.takeP 16 rfl Zk (.inr ⟨a0,a3,trivial⟩) (λ_=>(Fd rfl)) ?_;refine RT.done Zk ?_;refine Ai.retCT (x:= .int .i64 ((Cm (ms++ms2) (cl++cl2)).1)) (cs:=#[.slice aX ((Cm (ms++ms2) (cl++cl2)).2.1.length) aY,.slice aZ ((Cm (ms++ms2) (cl++cl2)).2.2.length) b0]) func148 rfl ty31 rfl rfl a4.cl rfl ?_;rw[Ge hj.1 hj.2];replace K0:=(K0.ext aq).n1 af;replace aF:=aF.kO af (Aa bp);replace aG:=aG.kO af (Aa bs);exact⟨_,rfl,aX,aY,aZ,b0,rfl,aF,aG,bo,bq,bt,K0⟩
 refine CB.st rfl<|AB.buildSlice ([⟨ac,cl.length,cc⟩,⟨ac2,cl2.length,cc2⟩]:List SH) underlying295 ty29 rfl rfl Ze ?_
 intro cg ch bu aJ ar;clear bu;replace a0:=a0.ext ar;replace a3:=a3.ext ar;refine⟨.inr ⟨a0,a3,trivial⟩,?_⟩;refine RT.st 4 rfl Zk rfl<|AB.buildSlice ([⟨am,ms.length,cm⟩,⟨am2,ms2.length,cm2⟩]:List SH) underlying53 ty28 rfl rfl Ze ?_;intro ci cj bv bw ag;clear bv;replace a0:=a0.ext ag;replace a3:=a3.ext ag;refine⟨.inr ⟨a0,a3,trivial⟩,?_⟩;replace K0:=(K0.ext ar).ext ag;refine RT.st 5 rfl Zk rfl<|jC (Qx _ _ _ _ _ _ bw.sl (D9.two rfl (hs.ext K0) rfl (hs2.ext K0)) Zo) ?_;rintro _ ck ⟨cn,co,rfl,aK,bx,ah⟩;clear bx;replace a0:=a0.ext ah;replace a3:=a3.ext ah;refine⟨.inr ⟨a0,a3,trivial⟩,?_⟩;replace aJ:=(aJ.ext ag).ext ah;replace K0:=K0.ext ah;refine RT.st 11 rfl Zk rfl<|jC (Qy _ _ _ _ _ _ aJ.sl (D9.two rfl (ht.ext K0) rfl (ht2.ext K0)) Zo) ?_;rintro _ cp ⟨cq,cr,rfl,bz,bA,ai⟩;clear bA;replace a0:=a0.ext ai;replace a3:=a3.ext ai;refine⟨.inr ⟨a0,a3,trivial⟩,?_⟩;replace aK:=aK.ext ai;refine RT.st 12 rfl Zk rfl<|jC (NP _ (ms++ms2) _ _ (cl++cl2) _ _ aK.sl bz.sl Zn) ?_;rintro _ ct ⟨b1,b2,b3,b4,rfl,aL,aM,bB,aN,aO,au⟩;replace a4:=(((a4.ext ar).ext ag).ext ah).ext ai;have bC:=Ay aN a4.lt;replace K0:=K0.ext ai;have bD:=Bg K0.size aN;have bE:=Ay aO a4.lt;have bF:=Bg K0.size aO;clear aN aO;replace a0:=a0.ext au;replace a3:=a3.ext au;refine⟨.inr ⟨a0,a3,trivial⟩,?_⟩;refine RT.takeP 13 rfl Zk (.inr ⟨a0,a3,trivial⟩) (λ_=>(Ec rfl rfl)) ?_;refine RT.takeP 14 rfl Zk (.inr ⟨a0,a3,trivial⟩) (λ_=>(Ec rfl rfl)) ?_;replace a4:=a4.ext au;refine RT.st 15 rfl Zk rfl<|jS a4 ?_;intro cu a4 aj;replace a0:=a0.kp aj;replace a3:=a3.kp aj;refine⟨.inr ⟨a0,a3,trivial⟩,?_⟩;refine RT.takeP 16 rfl Zk (.inr ⟨a0,a3,trivial⟩) (λ_=>(Fd rfl)) ?_;refine RT.done Zk ?_;refine Ai.retCT (x:= .int .i64 ((Cm (ms++ms2) (cl++cl2)).1)) (cs:=#[.slice b1 ((Cm (ms++ms2) (cl++cl2)).2.1.length) b2,.slice b3 ((Cm (ms++ms2) (cl++cl2)).2.2.length) b4]) func148 rfl ty31 rfl rfl a4.cl rfl ?_;rw[Ge hj.1 hj.2];replace K0:=(K0.ext au).n1 aj;replace aL:=aL.kO aj (Aa bC);replace aM:=aM.kO aj (Aa bE);exact⟨_,rfl,b1,b2,b3,b4,rfl,aL,aM,bB,bD,bF,K0⟩
end
section
section
open Ieee Ieee.Format
def A2 (b:Int):Prop:=b<=9218868437227405312\/b=9223372036854775808
instance (b :Int):Decidable (A2 b):=by unfold A2;infer_instance
def Xt (x:Int):(some (compare x 0)=some Ordering.gt\/some (compare x 0)=some Ordering.eq)↔0<=x:=by
 have e:compare x 0=if x<0 then .lt else if x=0 then .eq else .gt:=by simp only[compare,compareOfLessAndEq]
 rw[e];by_cases h1:x<0
 ·simp[h1]
 by_cases h2:x=0
 ·simp[h2]
 simp[h1,h2];omega
def iV (k:Nat):signed false 0 k=0:=by simp[signed]
def j8 (m k:Nat):0<=signed false m k:=by simp only[signed,Abk,if_false];exact Int.natCast_nonneg _
def j9 (m k:Nat):0<=signed true m k↔m=0:=by
 simp only[signed,if_true];have h:m<<<k=m*2^k:=Nat.shiftLeft_eq m k;constructor
 ·intro h1;have h2:m*2^k=0:=by omega
  rcases Nat.mul_eq_zero.1 h2 with h3|h3
  ·exact h3
  exact absurd h3 (Nat.ne_of_gt (Nat.two_pow_pos k))
 rintro rfl;simp
def read_zero :Ieee.double.read 0= .number false 0 Ieee.double.leastPlace:=by decide+kernel
def Ph {b:Nat}(hb:b<18446744073709551616):(Ieee.double.order b 0=some .gt\/Ieee.double.order b 0=some .eq)↔A2 b:=by
 have e1:Ieee.double.signWeight=9223372036854775808:=by decide+kernel
 have e2:Ieee.double.binade=4503599627370496:=by decide+kernel
 have e3:Ieee.double.infRung=9218868437227405312:=by decide+kernel
 unfold Format.order A2;rw[read_zero];unfold Format.read;simp only[e1,e2,e3];by_cases hs:b<9223372036854775808
 ·have hn:(b/9223372036854775808%2==1)=false:=by simp;omega
  have hr:b%9223372036854775808=b:=Nat.mod_eq_of_lt hs;rw[hn,hr];split
  ·simp only[Datum.order,iV,Xt,j8,true_iff];omega
  split
  ·simp only[Datum.order,iV,Xt,j8,true_iff];omega
  split
  ·simp[Datum.order];omega
  simp[Datum.order];omega
 have hn:(b/9223372036854775808%2==1)=true:=by simp;omega
 have hr:b%9223372036854775808=b-9223372036854775808:=by omega
 rw[hn,hr];split
 ·simp only[Datum.order,iV,Xt,j9];omega
 split
 ·simp only[Datum.order,iV,Xt,j9];omega
 split
 ·simp[Datum.order];omega
 simp[Datum.order];omega
def ij {P:Program}{n:FN}{ρ:Bd}{w:World}{dst:Option Nat}{ty:TypeId}{pos:String}{af:Array Edge}{g:Option (Nat×Bool)}{t t':TypeId}{x y:Operand}{b:Int}(h0:0<=b)(h1:b<18446744073709551616)(hx:rd n ρ x= .float .f64 b.toNat)(hy:rd n ρ y= .float .f64 0):
  X P n ρ ⟨dst,.binOp .geq t x y t',ty,pos,af,g⟩ w (.bool (decide (A2 b))) w:=by
 have h:=Ph (b:=b.toNat) Zo;rw[AaT h0]at h;have e:(Ieee.double.order b.toNat 0==some .gt||Ieee.double.order b.toNat 0==some .eq)=decide (A2 b):=by
  rw[AaD,Abp,beq_iff_eq,beq_iff_eq,decide_eq_true_eq];exact h
 rw[<-e];simp[X,execOp,hx,hy,eqGuard,binOp,Op.floatCmp,FloatKind.format]
end
def Jp (c:UInt8):Bool:=decide (¬(97<=(c.toNat:Int)/\(c.toNat:Int)<=122)/\¬(65<=(c.toNat:Int)/\(c.toNat:Int)<=90)/\¬(48<=(c.toNat:Int)/\(c.toNat:Int)<=57)/\(c.toNat:Int)≠46/\(c.toNat:Int)≠45/\(c.toNat:Int)≠95)
def AK (s:ByteArray):Bool:=decide (s≠⟨#[]⟩/\s.size<=32)&& !(s.data.toList.any Jp)
def Tg {s:ByteArray}{i:Nat}{c:UInt8}(hx:s.data.toList[i]? =some c)(h:Jp c=true):AK s=false:=by rw[AK,Uh hx h];simp
def JY (r:Nat):Bool:=decide (¬(97<=r/\r<=122)/\¬(65<=r/\r<=90)/\¬(48<=r/\r<=57)/\r≠46/\r≠45/\r≠95)
def set_ascii :∀n:Fin 128,(0<=Lib.indexByte [45,95,46] (IntKind.u8.wrap ((n.1:Nat):Int)).toNat.toUInt8↔(n.1=45\/n.1=95\/n.1=46)):=by decide+kernel
def Zc {r:Int}(h0:0<=r)(h:r<128):0<=Lib.indexByte ((⟨#[45,95,46]⟩:ByteArray).data.toList) (IntKind.u8.wrap r).toNat.toUInt8↔r=45\/r=95\/r=46:=by
 have:=set_ascii ⟨r.toNat,by omega⟩
 simp only[AaT h0]at this;rw[show(⟨#[45,95,46]⟩:ByteArray).data.toList=[45,95,46]from rfl,this];omega
def set_far :∀c:UInt8,128<=c.toNat->(Lib.indexByte [46] c= -1/\Lib.indexByte [] c= -1):=by
 have:∀n:Fin 256,128<=(UInt8.ofNat n.1).toNat->(Lib.indexByte [46] (UInt8.ofNat n.1)= -1/\Lib.indexByte [] (UInt8.ofNat n.1)= -1):=by decide+kernel
 intro c hc;have h:=this ⟨c.toNat,c.toNat_lt⟩;simp only[UInt8.ofNat_toNat]at h;exact h hc
def Vu {m:Nat}{c:UInt8}(h1:1<=m)(h3:m<3)(hc:128<=c.toNat):Lib.indexByte ((⟨#[45,95,46]⟩:ByteArray).extract (m+1) (⟨#[45,95,46]⟩:ByteArray).size).data.toList (c.toNat:Int).toNat.toUInt8= -1:=by
 have e:(c.toNat:Int).toNat.toUInt8=c:=by simp[Nat.toUInt8]
 rw[e];have h:=set_far c hc;rcases (show m=1\/m=2 by omega)with rfl|rfl
 ·exact h.1
 exact h.2
def Vv {m:Nat}(h1:1<=m)(h3:m<3):∃d:UInt8,(⟨#[45,95,46]⟩:ByteArray).data.toList[m]? =some d/\d.toNat<128:=by
 rcases (show m=1\/m=2 by omega)with rfl|rfl
 ·exact⟨95,rfl,by decide⟩
 exact⟨46,rfl,by decide⟩
def Lr (r:Int):Utf8.valid r=(decide (0<=r)&&decide (r<55296)||decide (57344<=r)&&decide (r<=1114111)):=rfl
def Kg {P:Program}{f:FuncId}{a:Array Value}{w:World}{v:Value}(h:Calls P f a w λe w'=>e= .returned v/\w'=w):Calls P f a w (AU λx w'=>x=v/\w=w'):=h.mono λe w' ⟨h1,h2⟩=>⟨_,h1,rfl,h2.symm⟩
def Vw {w w':World}(h:RowKit.Below w.heap.size w w'):As w w':=⟨h.os,h.tape,h.output,h.size,λk hk _=>h.block k hk⟩
def Th (s : ByteArray) : Lib.idxFunc JY true s < 0 ↔ s.data.toList.any Jp = false := by
  have key : ∀ (f p : Nat), p + f = s.size -> (Lib.idxFuncFrom JY true s f p < 0 ↔ (s.data.toList.drop p).any Jp = false) := by
    intro f;induction f with
    | zero =>
      intro p hp;rw [Aa0 (by rw [Gv]; omega)];simp [Lib.idxFuncFrom]
    | succ f ih =>
      intro p hp;have hps : p < s.size := by omega
      have hpl : p < s.data.toList.length := by rw [Gv]; exact hps
      obtain ⟨c, hc⟩ := gH s hps;have hcg : s[p]'hps = c := by
        obtain ⟨h1, h2⟩ := List.getElem?_eq_some_iff.1 hc;rw [<- h2]; rfl
      have hd : s.data.toList.drop p = c :: s.data.toList.drop (p + 1) := by
        obtain ⟨h1, rfl⟩ := List.getElem?_eq_some_iff.1 hc;exact AbC h1
      unfold Lib.idxFuncFrom;rw [if_pos hps, hd, List.any_cons];by_cases ha : c.toNat < 128
      · have hdec := decode_ascii s p hps (by rw [hcg]; exact ha);rw [hdec, hcg];have hb : JY c.toNat = Jp c := by
          unfold JY Jp;rw [decide_eq_decide];omega
        rw [hb];cases hbb : Jp c with
        | true => simp
        | false => simpa using ih (p + 1) Zo
      have hbad : Jp c = true := by unfold Jp; rw [decide_eq_true_eq]; omega
      have hrune : JY (Utf8.decode s p).1 = true := by
        have hge : 128 <= (Utf8.decode s p).1 := by
          have e : s.get! (p + 0) = c := by
            show s.get! p = _
            rw [<- hcg];simp [ByteArray.get!, getElem!_pos, hps];rfl
          unfold Utf8.decode;simp only [e, ha, if_false];split
          · split
            · rename_i h; exact Aaa Zd h
            decide
          split
          · split
            · rename_i h; simp only [Aao, decide_eq_true_eq] at h; exact Aaa Zd h.1
            decide
          split
          · split
            · rename_i h; simp only [Aao, decide_eq_true_eq] at h; exact Aaa Zd h.1
            decide
          decide
        unfold JY; rw [decide_eq_true_eq]; omega
      rw [hrune, hbad];simp
  have h := key s.size 0 Zo;simpa [Lib.idxFunc] using h
def Xu (s:ByteArray):(!decide (s=⟨#[]⟩)&&decide ((s.size:Int)<=32)&&decide (Lib.idxFunc JY true s<0))=AK s:=by
 rw[AK,AaD];simp only[Aao,AaH,decide_eq_false_iff_not,decide_eq_true_eq,Th,ne_eq];constructor
 ·rintro⟨⟨h1,h2⟩,h3⟩;exact⟨⟨h1,by omega⟩,h3⟩
 rintro⟨⟨h1,h2⟩,h3⟩;exact⟨⟨h1,by omega⟩,h3⟩
attribute [local irreducible] X
def Zg (b:Int)(w:World)(h0:0<=b)(h1:b<18446744073709551616):
  Calls prog 143 #[.int .u64 b] w (AU (λv w'=>v= .bool (decide (A2 b))/\As w w')):=by
 refine kD (n:=6) func143 ?_;refine jR<|AB.extn (vals:=[.int .u64 b]) (v:= .float .f64 b.toNat) rfl (by rw[run_callFunc_extern func201 Zk Zk Zk (e:=Extern.MathFloatBits.float64frombits) Zk];rfl) ?_;refine kE (ij h0 h1 rfl rfl) ?_;refine jJ func143 ?_;exact⟨_,rfl,rfl,(Ae.refl _ w)⟩
def QD (r:Int)(w:World):
  Calls prog 278 #[.int .i32 r] w (AU (λv w'=>v= .bool (Utf8.valid r)/\As w w')):=by
 refine kD (n:=17) func278 ?_;refine kE (Bo rfl rfl rfl) ?_;refine jF ?_ ?_
 ·intro hc3;refine kL func278 ?_;exact⟨_,rfl,congrArg Value.bool (by rw[Lr];simp;omega),(Ae.refl _ w)⟩
 intro hc3;refine jG ?_;refine kE (Bo rfl rfl rfl) ?_;refine jF ?_ ?_
 ·intro hc10;refine kL func278 ?_;exact⟨_,rfl,congrArg Value.bool (by rw[Lr];simp;omega),(Ae.refl _ w)⟩
 intro hc10;refine kL func278 ?_;exact⟨_,rfl,congrArg Value.bool (by rw[Lr];simp;omega),(Ae.refl _ w)⟩
def Vx (r:Int)(w:World)(h0:0<=r)(h1:r<=1114111):
  Calls prog 238 #[.string (⟨#[45,95,46]⟩:ByteArray),.int .i32 r] w (AU (λv w'=>∃q:Int,v= .int .i64 q/\(0<=q↔r=45\/r=95\/r=46)/\As w w')):=by
 refine Ac (n:=187) func238 rfl rfl rfl ?_;refine FU ?_;by_cases hA:r<128
 ·refine FU ?_;refine jV (DR (Md rfl rfl) (decide_eq_true h0)) ?_;refine ET ?_;refine jT<|jO (DR (FZ rfl rfl) (decide_eq_true hA)) ?_;refine kE (BP rfl rfl rfl) ?_;refine C8 ?_;refine jG ?_;refine jV (Ia rfl ⟨_,underlying21⟩ underlying5) ?_;refine kS (Kg (Any.strings_IndexByte idxBL (⟨#[45,95,46]⟩:ByteArray) (IntKind.u8.wrap r) _)) ?_;rintro _ _ ⟨rfl,rfl⟩;refine kL func238 ?_;exact⟨_,rfl,_,rfl,Zc h0 hA,(Ae.refl _ w)⟩
 refine FU ?_;refine jV (DR (Md rfl rfl) (decide_eq_true h0)) ?_;refine ET ?_;refine jT<|jO (DK (FZ rfl rfl) (decide_eq_false hA)) ?_;refine kE (BP rfl rfl rfl) ?_;refine Ai.condF rfl ?_;refine Et ?_;by_cases hB:r=65533
 ·refine FU ?_;refine kE (DR (HF rfl rfl) (by simp[hB])) ?_;refine C8 ?_;refine jG ?_;refine jR<|AB.rangeStr underlying9 rfl ?_;intro a0 ad a1 a2 a3;have:w.heap.size<=a0:=a1;have K0:=(a3:As w _);refine jG ?_;refine Ai.unloop ?_;refine jG ?_;refine jR<|AB.nextStr (p:=0) (r:=45) (wd:=1) rfl a2 Zd (by decide+kernel) ?_;intro ae a4 a5;refine kJ ?_;refine kG ?_;refine Ai.inLoop ?_;refine jG ?_;refine jR<|AB.nextStr (p:=1) (r:=95) (wd:=1) rfl a4 Zd (by decide+kernel) ?_;intro af a6 a7;refine kJ ?_;refine kG ?_;refine Ai.inLoop ?_;refine jG ?_;refine jR<|AB.nextStr (p:=2) (r:=46) (wd:=1) rfl a6 Zd (by decide+kernel) ?_;intro ag a8 a9;refine kJ ?_;refine kG ?_;refine Ai.inLoop ?_;refine jG ?_;refine jR<|AB.nextEnd rfl a8 Zd ?_;refine kG ?_;refine jJ func238 ?_;replace K0:=((K0.n1 a5).n1 a7).n1 a9;exact⟨_,rfl,_,rfl,by omega,K0⟩
 refine FU ?_;refine kE (DK (HF rfl rfl) (by simp[hB])) ?_;refine kH ?_;refine kS (QD _ _) ?_;rintro _ ah ⟨rfl,aa⟩;have K0:=(aa:As w _);refine kK ?_ ?_
 ·intro hc183;skip;refine kL func238 ?_;exact⟨_,rfl,_,rfl,by omega,K0⟩
 intro hc183;obtain⟨m,c,hm1,hm3,hsz,hcc,hc8⟩:=QC hc183 Zo;refine jG ?_;refine kE (Tf Zk underlying9 rfl) ?_;refine jV (AA (c:=((m+1:Nat):Int)) (DT underlying9 rfl) (by rw[hsz])) ?_;refine kE (AA (c:=((m:Nat):Int)) (B8 rfl rfl Zo Zo) Zo) ?_;refine Ai.unloop ?_;refine jG ?_;refine kE (AA (c:=3) (DT underlying9 rfl) Zd) ?_;refine jF ?_ ?_
 ·intro hc26;refine jG ?_;obtain⟨d,hd,hd8⟩:=Vv hm1 Zo;refine Ai.drawR ?_;intro ai ab;refine jG ?_;refine jD (I2 (i:=m) (c:=d) underlying9 rfl rfl hd) ?_;refine jG ?_;refine jD (I2 (i:=m) (c:=c) underlying9 rfl rfl hcc) ?_;refine jD (DR (HG rfl rfl) Zi) ?_;refine kI ?_;refine Ai.drawT [] (m:=9) Zk rfl ?_;intro aj ac;refine⟨λw'=>True,?_⟩;refine RT.takeP 0 rfl Zk (.inr trivial) (λ_=>(J0 rfl)) ?_;refine RT.takeP 1 rfl Zk (.inr trivial) (λ_=>(D4 rfl)) ?_;refine RT.takeP 2 rfl Zk (.inr trivial) (λ_=>(AA (c:=((m+1:Nat):Int)) (Av rfl rfl Zo Zo) rfl)) ?_;refine RT.takeP 3 rfl Zk (.inr trivial) (λ_=>(JG (i:=m+1) underlying9 rfl rfl (by simp only[show(⟨#[45,95,46]⟩:ByteArray).size=3 from rfl];omega))) ?_;refine RT.takeP 4 rfl Zk (.inr trivial) (λ_=>(J0 rfl)) ?_;refine RT.takeP 5 rfl Zk (.inr trivial) (λ_=>(D4 rfl)) ?_;refine RT.takeP 6 rfl Zk (.inr trivial) (λ_=>(I2 (i:=m) (c:=c) underlying9 rfl rfl hcc)) ?_;refine RT.st 7 rfl Zk rfl<|jC (Kg (Any.strings_IndexByte idxBL ((⟨#[45,95,46]⟩:ByteArray).extract (m+1) (⟨#[45,95,46]⟩:ByteArray).size) (c.toNat:Int) _)) ?_;rintro _ _ ⟨rfl,rfl⟩;refine⟨.inr trivial,?_⟩;refine RT.takeP 8 rfl Zk (.inr trivial) (λ_=>(Fd rfl)) ?_;refine RT.done Zk ?_;refine FU ?_;refine kE (DR (FZ rfl rfl) (by rw[Vu hm1 Zo hc8];decide)) ?_;refine C8 ?_;refine kL func238 ?_;replace K0:=(K0.ext ab).ext ac;exact⟨_,rfl,_,rfl,by omega,K0⟩
 intro hc26;refine kL func238 ?_;exact⟨_,rfl,_,rfl,by omega,K0⟩
def Ti (r:Int)(w:World)(h0:0<=r)(h1:r<=1114111):
  Calls prog 199 #[.string (⟨#[45,95,46]⟩:ByteArray),.int .i32 r] w (AU (λv w'=>v= .bool (decide (r=45\/r=95\/r=46))/\As w w')):=by
 refine kD (n:=9) func199 ?_;refine kS (Vx r _ h0 h1) ?_;rintro _ a1 ⟨q,rfl,hq,a0⟩;have K0:=(a0:As w _);refine kL func199 ?_;exact⟨_,rfl,congrArg Value.bool (by rw[decide_eq_decide];exact hq),K0⟩
def Zj (x:Nat)(w:World)(hx:x<=1114111):
  Calls prog 198 #[.int .i32 ((x:Nat):Int)] w (AU (λv w'=>v= .bool (JY x)/\As w w')):=by
 refine kD (n:=30) func198 ?_;refine kE (Bo rfl rfl rfl) ?_;refine jW ?_ (hx:=by exact λhg=>(T6 hg rfl rfl rfl));refine kE (Er rfl rfl rfl) ?_;refine jW ?_ (hx:=by exact λhg=>(T6 hg rfl rfl rfl));refine kE (Er rfl rfl rfl) ?_;refine RL.gcall (vals:=[.string (⟨#[45,95,46]⟩:ByteArray),.int .i32 ((x:Nat):Int)]) (Cc rfl rfl rfl rfl) en199.h (λhg=>(C2 rfl (C2 (B4 hg) HC))) (λhg=>(Ti ((x:Nat):Int) _ Zo Zo)) ?_;intro a1 a0;have K0:=(a0:As w _);refine kE (Er rfl rfl rfl) ?_;refine jJ func198 ?_;exact⟨_,rfl,congrArg Value.bool (by unfold JY;rw[AaD];simp;omega),K0⟩
def Vy (s:ByteArray)(w:World):Calls prog 239 #[.string s,.func (.func 198) #[] #[],.bool true] w (AU λv w'=>v= .int .i64 (Lib.idxFunc JY true s)/\As w w'):=
 (Any.strings_indexFunc_grows idxFL 198 #[] (C1 func198 rfl Zk) JY true s w (λW x hx _=>(Zj x W hx).mono λe w' ⟨v,h1,h2,h3⟩=>⟨by rw[h1,h2],h3.below⟩)).mono λe w' ⟨h1,h2⟩=>⟨_,h1,rfl,Vw h2⟩
def Tj (s:ByteArray)(w:World):
  Calls prog 200 #[.string s,.func (.func 198) #[] #[]] w (AU (λv w'=>v= .int .i64 (Lib.idxFunc JY true s)/\As w w')):=by
 refine kD (n:=8) func200 ?_;refine kS (Vy s _) ?_;rintro _ a1 ⟨rfl,a0⟩;have K0:=(a0:As w _);refine kL func200 ?_;exact⟨_,rfl,rfl,K0⟩
def ik (s:ByteArray)(w:World):
  Calls prog 142 #[.string s] w (AU (λv w'=>v= .bool (AK s)/\As w w')):=by
 refine kD (n:=17) func142 ?_;refine kE (Q8 rfl rfl) ?_;refine jW ?_ (hx:=by exact λhg=>(DT underlying9 (B4 hg)));refine jG ?_;refine kE (Bo rfl rfl rfl) ?_;refine RL.gcall (vals:=[.string s,.func (.func 198) #[] #[]]) (BX rfl rfl rfl rfl) en200.h (λhg=>(C2 (B4 hg) (C2 (B4 hg) HC))) (λhg=>(Tj s _)) ?_;intro a1 a0;have K0:=(a0:As w _);refine jG ?_;refine kE (Bo rfl rfl rfl) ?_;refine jJ func142 ?_;exact⟨_,rfl,congrArg Value.bool (Xu s),K0⟩
end
section
def cmpB_lt : ∀ a b : List UInt8, Lib.compareBytes a b < 0 ↔ a < b
  | [], [] => by simp [Lib.compareBytes]
  | [], _ :: _ => by simp [Lib.compareBytes]
  | _ :: _, [] => by simp [Lib.compareBytes]
  | a :: r, b :: s => by
    rw [Lib.compareBytes, List.cons_lt_cons_iff, <- cmpB_lt r s];split
    · rename_i h; simp [h]
    rename_i h;split
    · rename_i h2;simp only [h, false_or];constructor
      · intro h3; omega
      rintro ⟨e, -⟩; subst e; exact absurd h2 h
    rename_i h2;have e : a = b := UInt8.toNat_inj.1 (by rw [UInt8.lt_iff_toNat_lt] at h h2; omega);simp [e]
def cmpB_eq : ∀ a b : List UInt8, Lib.compareBytes a b = 0 ↔ a = b
  | [], [] => by simp [Lib.compareBytes]
  | [], _ :: _ => by simp [Lib.compareBytes]
  | _ :: _, [] => by simp [Lib.compareBytes]
  | a :: r, b :: s => by
    rw [Lib.compareBytes];split
    · rename_i h;constructor
      · intro h2; omega
      intro e; cases e; exact absurd h (by rw [UInt8.lt_iff_toNat_lt]; omega)
    rename_i h;split
    · rename_i h2;constructor
      · intro h2; omega
      intro e; cases e; exact absurd h2 h
    rename_i h2;have e : a = b := UInt8.toNat_inj.1 (by rw [UInt8.lt_iff_toNat_lt] at h h2; omega);rw [cmpB_eq r s]; simp [e]
def Ls {a b:ByteArray}:a.data.toList=b.data.toList↔a=b:=by
 constructor
 ·intro h;cases a;cases b;simp only[ByteArray.mk.injEq];exact Array.toList_inj.1 h
 rintro rfl;rfl
def RX (a:List UInt8):¬a<a:=λh=>by
 have h1:=(cmpB_lt a a).2 h;have h2:=(cmpB_eq a a).2 rfl;omega
def ltL_trans : ∀ {a b c : List UInt8}, a < b -> b < c -> a < c
  | _, _, [], _, h => absurd h (List.not_lt_nil _)
  | _, [], _ :: _, h, _ => absurd h (List.not_lt_nil _)
  | [], _ :: _, _ :: _, _, _ => List.nil_lt_cons _ _
  | a :: r, b :: s, c :: t, h1, h2 => by
    rw [List.cons_lt_cons_iff] at *;simp only [UInt8.lt_iff_toNat_lt] at *;rcases h1 with h1 | ⟨rfl, h1⟩ <;> rcases h2 with h2 | ⟨rfl, h2⟩
    · exact .inl Zo
    · exact .inl h1
    · exact .inl h2
    exact .inr ⟨rfl, ltL_trans h1 h2⟩
def RY {a b : List UInt8} (h : ¬ a < b) (h2 : ¬ b < a) : a = b := by
  induction a generalizing b with
  | nil => cases b with
    | nil => rfl
    | cons => exact absurd (List.nil_lt_cons _ _) h
  | cons x a ih => cases b with
    | nil => exact absurd (List.nil_lt_cons _ _) h2
    | cons y b =>
      rw [List.cons_lt_cons_iff] at h h2;simp only [UInt8.lt_iff_toNat_lt] at h h2;have e : x = y := UInt8.toNat_inj.1 Zo;subst e;rw [ih (λh3 => h (.inr ⟨rfl, h3⟩)) (λh3 => h2 (.inr ⟨rfl, h3⟩))]
def DJ (a b:Aj):Prop:=a.item.data.toList<b.item.data.toList\/a.item=b.item/\Cx a.dot b.dot
instance (a b:Aj):Decidable (DJ a b):=by unfold DJ;infer_instance
def Cf (a b:Aj):Int:=Lib.compareBytes a.item.data.toList b.item.data.toList
def II (a b:Aj):Int:=if Cf a b=0 then By a.dot b.dot else Cf a b
def Fa {a b:Aj}:II a b<0↔DJ a b:=by
 unfold II DJ;rw[<-cmpB_lt];have e:=(cmpB_eq a.item.data.toList b.item.data.toList).trans Ls;unfold Cf;split
 ·rename_i h;rw[EU];simp[e.1 h,(cmpB_eq b.item.data.toList b.item.data.toList).2 rfl]
 rename_i h;simp only[show¬a.item=b.item from λe2=>h (e.2 e2),false_and,or_false]
def Xv {a b:Aj}:0<=II a b↔¬DJ a b:=by rw[<-Fa];omega
def Kh (a:Aj):¬DJ a a:=by
 rintro(h|⟨-,h⟩)
 ·exact RX _ h
 exact NE h
def Hu (a b c:Aj)(h1:DJ a b)(h2:DJ b c):DJ a c:=by
 rcases h1 with h1|⟨e1,h1⟩<;>rcases h2 with h2|⟨e2,h2⟩
 ·exact .inl (ltL_trans h1 h2)
 ·exact .inl (e2▸h1)
 ·exact .inl (e1▸h2)
 exact .inr ⟨e1.trans e2,Ff h1 h2⟩
def NQ {a b:Aj}(h:¬DJ a b)(h2:¬DJ b a):a.item=b.item/\a.dot=b.dot:=by
 have e:a.item=b.item:=Ls.1 (RY (λh3=>h (.inl h3)) (λh3=>h2 (.inl h3)));exact⟨e,Ke (λh3=>h (.inr ⟨e,h3⟩)) (λh3=>h2 (.inr ⟨e.symm,h3⟩))⟩
def itemsN :List Aj->Nat
 |[]=>0
 |[_]=>1
 |x::y::t=>(if x.item=y.item then 0 else 1)+itemsN (y::t)
def itemsN_le : ∀ l : List Aj, itemsN l <= l.length
  | [] => Aac _
  | [_] => Aac _
  | x :: y :: t => by
    have := itemsN_le (y :: t);rw [itemsN];split <;> simp only [Aaj] at * <;> omega
def itemsN_run : ∀ (k : Nat) (x : Aj) (t : List Aj), (∀ j y, j < k -> (x :: t)[j]? = some y -> y.item = x.item) -> 1 <= k -> k <= t.length + 1 -> (∀ y, (x :: t)[k]? = some y -> y.item ≠ x.item) -> itemsN (x :: t) = 1 + itemsN ((x :: t).drop k)
  | 0, _, _, _, h, _, _ => absurd h Zo
  | 1, x, [], _, _, _, _ => by simp [itemsN]
  | 1, x, y :: t, _, _, _, h => by
    have := h y rfl;rw [itemsN, if_neg (λe => this e.symm)]; rfl
  | k + 2, x, [], _, _, h, _ => absurd h Zs
  | k + 2, x, y :: t, h, _, hl, hn => by
    have e : y.item = x.item := h 1 y Zo rfl;rw [itemsN, if_pos e.symm, Aaq, AbP];exact itemsN_run (k + 1) y t (λj z hj hz => by rw [e]; exact h (j + 1) z Zo (by simpa using hz)) Zo (by simp only [Aaj] at hl; omega) (λz hz => by rw [e]; exact hn z (by simpa using hz))
noncomputable def BZ (ms:List Ab)(cl:List Ah)(pre:List Aj)(x:Aj):Int:=
 open Classical in
 if AK x.item=false then 6 else if ¬(1<=x.qty/\x.qty<=1000000)then 52 else if ¬A2 x.price then 53
 else if ¬B6 ms cl x.dot\/(∃y,pre.getLast? =some y/\¬DJ y x)\/(∃y∈pre,y.dot=x.dot)then 50 else 0
noncomputable def AQ (ms:List Ab)(cl:List Ah)(es:List Aj):Nat->Int
 |0=>0
 |n+1=>if AQ ms cl es n≠0 then AQ ms cl es n else match es[n]? with|some x=>BZ ms cl (es.take n) x|none=>0
noncomputable def Bl (ms:List Ab)(cl:List Ah)(es:List Aj):Int:=
 if BL ms cl=false then 30 else if 64<es.length then 51 else if AQ ms cl es es.length≠0 then AQ ms cl es es.length else if 32<itemsN es then 51 else 0
section
variable {ms :List Ab}{cl:List Ah}{es pre:List Aj}{x y:Aj}{i:Nat}
def MN (h:AK x.item=false):BZ ms cl pre x=6:=by rw[BZ,if_pos h]
def Pi (h1:AK x.item=true)(h:¬(1<=x.qty/\x.qty<=1000000)):BZ ms cl pre x=52:=by rw[BZ,if_neg (by simp[h1]),if_pos h]
def Lt (h1:AK x.item=true)(h2:1<=x.qty/\x.qty<=1000000)(h:¬A2 x.price):BZ ms cl pre x=53:=by rw[BZ,if_neg (by simp[h1]),if_neg (not_not_intro h2),if_pos h]
def Gi (h1:AK x.item=true)(h2:1<=x.qty/\x.qty<=1000000)(h3:A2 x.price)(h:¬B6 ms cl x.dot\/(∃y,pre.getLast? =some y/\¬DJ y x)\/(∃y∈pre,y.dot=x.dot)):BZ ms cl pre x=50:=by
 rw[BZ,if_neg (by simp[h1]),if_neg (not_not_intro h2),if_neg (not_not_intro h3),if_pos h]
def NR (h1:AK x.item=true)(h2:1<=x.qty/\x.qty<=1000000)(h3:A2 x.price)(h:B6 ms cl x.dot)(h4:∀y,pre.getLast? =some y->DJ y x)(h5:∀y∈pre,y.dot≠x.dot):BZ ms cl pre x=0:=by
 rw[BZ,if_neg (by simp[h1]),if_neg (not_not_intro h2),if_neg (not_not_intro h3),if_neg];rintro(h6|⟨y,hy,h6⟩|⟨y,hy,h6⟩)
 ·exact h6 h
 ·exact h6 (h4 y hy)
 exact h5 y hy h6
structure il (ms:List Ab)(cl:List Ah)(pre:List Aj)(x:Aj):Prop where
 name:AK x.item=true
 qty:1<=x.qty/\x.qty<=1000000
 price:A2 x.price
 cov:B6 ms cl x.dot
 last:∀y,pre.getLast? =some y->DJ y x
 dots:∀y∈pre,y.dot≠x.dot
def errE_iff :BZ ms cl pre x=0↔il ms cl pre x:=by
 constructor
 ·intro h;have h1:AK x.item=true:=Decidable.byContradiction λh1=>by rw[MN (by simpa using h1)]at h;omega
  have h2:1<=x.qty/\x.qty<=1000000:=Decidable.byContradiction λh2=>by rw[Pi h1 h2]at h;omega
  have h3:A2 x.price:=Decidable.byContradiction λh3=>by rw[Lt h1 h2 h3]at h;omega
  have h4:¬(¬B6 ms cl x.dot\/(∃y,pre.getLast? =some y/\¬DJ y x)\/(∃y∈pre,y.dot=x.dot)):=λh4=>by rw[Gi h1 h2 h3 h4]at h;omega
  exact⟨h1,h2,h3,Decidable.byContradiction λh5=>h4 (.inl h5),λy hy=>Decidable.byContradiction λh5=>h4 (.inr (.inl ⟨y,hy,h5⟩)),λy hy e=>h4 (.inr (.inr ⟨y,hy,e⟩))⟩
 intro h;exact NR h.name h.qty h.price h.cov h.last h.dots
def GD (n:Nat):AQ ms cl es (n+1)=if AQ ms cl es n≠0 then AQ ms cl es n else match es[n]? with|some x=>BZ ms cl (es.take n) x|none=>0:=rfl
def Pj {n m : Nat} (h : AQ ms cl es n ≠ 0) (hm : n <= m) : AQ ms cl es m = AQ ms cl es n := by
  induction m with
  | zero => have : n = 0 := by omega
            subst this; rfl
  | succ m ih =>
    by_cases e : n = m + 1
    · subst e; rfl
    have := ih Zo;rw [GD, this, if_pos h]
def MO (h0:AQ ms cl es i=0)(hx:es[i]? =some x)(h:BZ ms cl (es.take i) x≠0):AQ ms cl es es.length=BZ ms cl (es.take i) x:=by
 have hi:=(List.getElem?_eq_some_iff.1 hx).1;have e:AQ ms cl es (i+1)=BZ ms cl (es.take i) x:=by rw[GD,if_neg (not_not_intro h0),hx]
 rw[Pj (n:=i+1) (by rw[e];exact h) hi,e]
def JQ (h0:AQ ms cl es i=0)(hx:es[i]? =some x)(h:BZ ms cl (es.take i) x=0):AQ ms cl es (i+1)=0:=by rw[GD,if_neg (not_not_intro h0),hx];exact h
def firstE_all : ∀ {n : Nat}, AQ ms cl es n = 0 -> ∀ i x, i < n -> es[i]? = some x -> il ms cl (es.take i) x
  | 0, _, _, _, h, _ => absurd h Zo
  | n + 1, h, i, x, hi, hx => by
    rw [GD] at h;by_cases h0 : AQ ms cl es n = 0
    · rw [if_neg (not_not_intro h0)] at h;by_cases e : i = n
      · subst e; rw [hx] at h; exact errE_iff.1 h
      exact firstE_all h0 i x Zo hx
    rw [if_pos h0] at h; exact absurd h h0
def Pk (h:BL ms cl=false):Bl ms cl es=30:=by rw[Bl,if_pos h]
def MP (h:BL ms cl=true)(h2:64<es.length):Bl ms cl es=51:=by rw[Bl,if_neg (by simp[h]),if_pos h2]
def Xw (h:BL ms cl=true)(h2:es.length<=64)(h0:AQ ms cl es i=0)(hx:es[i]? =some x)(h3:BZ ms cl (es.take i) x≠0):Bl ms cl es=BZ ms cl (es.take i) x:=by
 rw[Bl,if_neg (by simp[h]),if_neg Zo,if_pos (by rw[MO h0 hx h3];exact h3),MO h0 hx h3]
def MQ (h:BL ms cl=true)(h2:es.length<=64)(h0:AQ ms cl es es.length=0)(h3:32<itemsN es):Bl ms cl es=51:=by rw[Bl,if_neg (by simp[h]),if_neg Zo,if_neg (not_not_intro h0),if_pos h3]
def RZ (h:BL ms cl=true)(h2:es.length<=64)(h0:AQ ms cl es es.length=0)(h3:itemsN es<=32):Bl ms cl es=0:=by rw[Bl,if_neg (by simp[h]),if_neg Zo,if_neg (not_not_intro h0),if_neg Zo]
structure GE (ms:List Ab)(cl:List Ah)(es:List Aj):Prop where
 ctx:EO ms cl
 len:es.length<=64
 ent:∀i x,es[i]? =some x->il ms cl (es.take i) x
 items:itemsN es<=32
def Ey (h:Bl ms cl es=0):GE ms cl es:=by
 have h1:BL ms cl=true:=by
  cases hc:BL ms cl with
  |true=>rfl
  |false=>rw[Pk hc]at h;omega
 have h2:es.length<=64:=Ab1 λh2=>by rw[MP h1 h2]at h;omega
 have h3:AQ ms cl es es.length=0:=Decidable.byContradiction λh3=>by
  rw[Bl,if_neg (by simp[h1]),if_neg Zo,if_pos h3]at h;exact h3 h
 have h4:itemsN es<=32:=Ab1 λh4=>by rw[MQ h1 h2 h3 h4]at h;omega
 exact⟨Fy.1 h1,h2,λi x hx=>firstE_all h3 i x (List.getElem?_eq_some_iff.1 hx).1 hx,h4⟩
def MR {es:List Aj}(hi:0<i)(h:es[i-1]? =some y):(es.take i).getLast? =some y:=by
 have hl:=(List.getElem?_eq_some_iff.1 h).1;rw[Acf,List.length_take,Abv Zo,Ach Zo];exact h
def EV {es:List Aj}(hl:i<=es.length)(h:(es.take i).getLast? =some y):0<i/\es[i-1]? =some y:=by
 rw[Acf,List.length_take,Abv Zo]at h;by_cases h0:0<i
 ·rw[Ach Zo]at h;exact⟨h0,h⟩
 have:i=0:=by omega
 subst this;simp at h
def GE.sorted (h:GE ms cl es):es.Pairwise DJ:=Ex (λa b c=>Hu a b c) λi x y hx hy=>(h.ent (i+1) y hy).last x (MR Zo hx)
def GE.mem (h:GE ms cl es)(hx:x∈es):AK x.item=true/\(1<=x.qty/\x.qty<=1000000)/\A2 x.price/\B6 ms cl x.dot:=by
 obtain⟨i,hi,rfl⟩:=AaI hx;have h:=h.ent i _ (List.getElem?_eq_getElem hi);exact⟨h.name,h.qty,h.price,h.cov⟩
def GE.dots (h:GE ms cl es){x y:Aj}(hx:x∈es)(hy:y∈es)(e:x.dot=y.dot):x=y:=by
 obtain⟨i,hi,rfl⟩:=AaI hx;obtain⟨j,hj,rfl⟩:=AaI hy;rcases Nat.lt_trichotomy i j with hlt|rfl|hlt
 ·exact absurd e ((h.ent j _ (List.getElem?_eq_getElem hj)).dots _ (List.mem_take_iff_getElem.2 ⟨i,by omega,rfl⟩))
 ·rfl
 exact absurd e.symm ((h.ent i _ (List.getElem?_eq_getElem hi)).dots _ (List.mem_take_iff_getElem.2 ⟨j,by omega,rfl⟩))
end
def Gr (w w':World):Prop:=∃(q:Nat) (os':Array Obj),w'=Go.Sort.grow (w.drewN q) os'
def Gr.refl (w:World):Gr w w:=⟨0,#[],by simp[Go.Sort.grow,World.drewN]⟩
def Gr.push (w:World)(o:Obj):Gr w {w with heap:=w.heap.push o}:=⟨0,#[o],by simp[Go.Sort.grow,World.drewN]⟩
def Gr.trans {a b c:World}(h:Gr a b)(k:Gr b c):Gr a c:=by
 obtain⟨q,os',rfl⟩:=h;obtain⟨q2,os2,rfl⟩:=k;exact⟨q+q2,os'++os2,by simp[Go.Sort.grow,World.drewN,Abs]⟩
section
variable {α :Type}[Enc α]{P:Program}{f:FuncId}{n:FN}{R:Ending->World->Prop}{k:List Item}{ρ:Bd}{w:World}{dst:Option Nat}{ty:TypeId}{pos:String}{af:Array Edge}{K:Bd->World->Prop}
def AB.boxG {e:TypeId}{x:Operand}{v:Value}(hx:rd n ρ x=v)
  (h:∀b w',w.heap.size<=b->AC w' b v.cells.toList e->As w w'->Gr w w'->K (Bj ρ dst (jp b)) w'):
  AB P f n R k ⟨dst,.box e x,ty,pos,af,none⟩ ρ w K:=
 AB.val (X6 hx) (h _ _ (Aac _) (F0 w _ e) (As.push w _) (Gr.push w _))
def AB.buildSliceG {t e:TypeId}{bytes len:Nat}{z:Value}{agg:Bool}{parts:List (Nat×Operand)}(ys:List α)(ht:P.underlying t=some (.slice e))(he:Ty P e (Enc.size α) bytes z agg)
  (hlen:len=ys.length) (hp:(parts.map λ(i,x)=>(i,rd n ρ x))=((ys.map Enc.val).zipIdx 0).map λx=>(x.2,x.1)) (hl:ys.length*Enc.size α<=16777216)
  (h:∀b w',w.heap.size<=b->Af w' e (some ⟨b,0,none⟩) ys.length ys->As w w'->Gr w w'->K (Bj ρ dst (.slice (some ⟨b,0,none⟩) ys.length ys.length)) w'):
  AB P f n R k ⟨dst,.buildSlice t len parts.toArray,ty,pos,af,none⟩ ρ w K:=by
 subst hlen;have hpos:=Enc.pos (α:=α);have hm:ys.length<=ys.length*Enc.size α:=Nat.le_mul_of_pos_right _ hpos;have hr:=run_buildSlice (P:=P) (w:=w) ht he ys (parts.toArray.map λ(i,x)=>(i,rd n ρ x)) (by simpa using hp) hl;refine AB.val (v:= .slice (some ⟨w.heap.size,0,none⟩) ys.length ys.length) (w':={w with heap:=w.heap.push (.cells (AS ys).toArray e)}) ?_ (h _ _ (Aac _) (Kx w e ys (by simp only[maxLen];omega)) (As.push w _) (Gr.push w _));simp only[execOp,Sem.run_bind,hr,Result.andThen_ok,Sem.run_pure]
end
attribute [local irreducible] AD DP Cx BI By Ca B6 DJ Cf itemsN BZ AQ Bl BL Gr X
def Yl (a b:Aj)(w:World)(ha:DP a.dot)(hb:DP b.dot):
  Calls prog 145 #[.agg #[.string a.item,.int .i64 a.dot.node,.int .i64 a.dot.life,.int .i64 a.dot.count,.int .i64 a.qty,.int .u64 a.price],.agg #[.string b.item,.int .i64 b.dot.node,.int .i64 b.dot.life,.int .i64 b.dot.count,.int .i64 b.qty,.int .u64 b.price]] w (AU (λv w'=>v= .int .i64 (II a b)/\As w w'/\Gr w w')):=by
 unfold DP at ha hb;obtain⟨ha1,ha2,ha3⟩:=ha;obtain⟨hb1,hb2,hb3⟩:=hb;have G0:=Gr.refl w;refine kD (n:=45) func145 ?_;refine jR<|AB.boxG (v:= .agg #[.string a.item,.int .i64 a.dot.node,.int .i64 a.dot.life,.int .i64 a.dot.count,.int .i64 a.qty,.int .u64 a.price]) rfl ?_;intro a3 a7 a4 a1 a8 hG_;replace a1:AC a7 a3 [.string a.item,.int .i64 a.dot.node,.int .i64 a.dot.life,.int .i64 a.dot.count,.int .i64 a.qty,.int .u64 a.price] 76:=a1;have:w.heap.size<=a3:=a4;clear a4;have K0:=(a8:As w _);replace G0:=Gr.trans G0 hG_;clear hG_;refine jR<|AB.boxG (v:= .agg #[.string b.item,.int .i64 b.dot.node,.int .i64 b.dot.life,.int .i64 b.dot.count,.int .i64 b.qty,.int .u64 b.price]) rfl ?_;intro a9 aa a2 a5 a6 hG_;replace a5:AC aa a9 [.string b.item,.int .i64 b.dot.node,.int .i64 b.dot.life,.int .i64 b.dot.count,.int .i64 b.qty,.int .u64 b.price] 76:=a5;have aH:=Ak a1.lt a2;have:=Aaa K0.size a2;clear a2;replace G0:=Gr.trans G0 hG_;clear hG_;replace a1:=a1.ext a6;refine jG ?_;refine kS (Kg (Any.strings_Compare cmpSL a.item b.item _)) ?_;rintro _ _ ⟨rfl,rfl⟩;refine jG ?_;refine kE (B8 rfl rfl Zo Zo) ?_;refine kE (B8 rfl rfl Zo Zo) ?_;refine jV (B8 rfl rfl Zo Zo) ?_;refine jR<|AB.buildSliceG ([(a.dot.node)-(b.dot.node),(a.dot.life)-(b.dot.life),(a.dot.count)-(b.dot.count)]:List Int) underlying185 ty3 rfl rfl Ze ?_;intro aI aJ ab a0 ac hG_;clear ab;replace G0:=Gr.trans G0 hG_;clear hG_;refine kE (AA (c:=3) (CM underlying185 rfl) rfl) ?_;refine Ai.unloop ?_;refine kJ ?_;refine Et ?_;obtain⟨aK,aL,ad,ae,af,ag⟩:=a0.sl.el (i:=0) Zs;obtain rfl:(a.dot.node)-(b.dot.node)=ad:=Option.some.inj ae;refine jV (AY underlying185 ty3 rfl rfl af Zs) ?_;refine kE (B9 (v:= .int .i64 ((a.dot.node)-(b.dot.node))) (y:=(a.dot.node)-(b.dot.node)) ty3 rfl ag rfl) ?_;replace K0:=(K0.ext a6).ext ac;refine jF ?_ ?_
 ·intro hc41;refine jG ?_;refine kE (AA (c:=1) (Av rfl rfl Zd Zd) Zd) ?_;refine Ai.inLoop ?_;refine kJ ?_;refine Et ?_;obtain⟨aM,aN,ah,ai,aj,ak⟩:=a0.sl.el (i:=1) Zs;obtain rfl:(a.dot.life)-(b.dot.life)=ah:=Option.some.inj ai;refine jV (AY underlying185 ty3 rfl rfl aj Zs) ?_;refine kE (B9 (v:= .int .i64 ((a.dot.life)-(b.dot.life))) (y:=(a.dot.life)-(b.dot.life)) ty3 rfl ak rfl) ?_;refine jF ?_ ?_
  ·intro hc41;refine jG ?_;refine kE (AA (c:=2) (Av rfl rfl Zd Zd) Zd) ?_;refine Ai.inLoop ?_;refine kJ ?_;refine Et ?_;obtain⟨aO,aP,al,am,an,ao⟩:=a0.sl.el (i:=2) Zs;obtain rfl:(a.dot.count)-(b.dot.count)=al:=Option.some.inj am;refine jV (AY underlying185 ty3 rfl rfl an Zs) ?_;refine kE (B9 (v:= .int .i64 ((a.dot.count)-(b.dot.count))) (y:=(a.dot.count)-(b.dot.count)) ty3 rfl ao rfl) ?_;refine jF ?_ ?_
   ·intro hc41;refine jG ?_;refine kE (AA (c:=3) (Av rfl rfl Zd Zd) Zd) ?_;refine Ai.inLoop ?_;refine kG ?_;refine jJ func145 ?_;exact⟨_,rfl,by unfold II Cf By;(repeat' split)<;>first|rfl|omega,K0,G0⟩
   intro hc41;refine jG ?_;refine kE (AA (c:=3) (Av rfl rfl Zd Zd) Zd) ?_;refine Ai.inLoop ?_;refine kG ?_;refine jJ func145 ?_;exact⟨_,rfl,by unfold II Cf By;(repeat' split)<;>first|rfl|omega,K0,G0⟩
  intro hc41;refine jG ?_;refine kE (AA (c:=2) (Av rfl rfl Zd Zd) Zd) ?_;refine Ai.inLoop ?_;refine kJ ?_;refine Et ?_;obtain⟨aQ,aR,ap,aq,ar,au⟩:=a0.sl.el (i:=2) Zs;obtain rfl:(a.dot.count)-(b.dot.count)=ap:=Option.some.inj aq;refine jV (AY underlying185 ty3 rfl rfl ar Zs) ?_;refine kE (B9 (v:= .int .i64 ((a.dot.count)-(b.dot.count))) (y:=(a.dot.count)-(b.dot.count)) ty3 rfl au rfl) ?_;refine jF ?_ ?_
  ·intro hc41;refine jG ?_;refine kE (AA (c:=3) (Av rfl rfl Zd Zd) Zd) ?_;refine Ai.inLoop ?_;refine kG ?_;refine jJ func145 ?_;exact⟨_,rfl,by unfold II Cf By;(repeat' split)<;>first|rfl|omega,K0,G0⟩
  intro hc41;refine jG ?_;refine kE (AA (c:=3) (Av rfl rfl Zd Zd) Zd) ?_;refine Ai.inLoop ?_;refine kG ?_;refine jJ func145 ?_;exact⟨_,rfl,by unfold II Cf By;(repeat' split)<;>first|rfl|omega,K0,G0⟩
 intro hc41;refine jG ?_;refine kE (AA (c:=1) (Av rfl rfl Zd Zd) Zd) ?_;refine Ai.inLoop ?_;refine kJ ?_;refine Et ?_;obtain⟨aS,aT,av,aw,ax,ay⟩:=a0.sl.el (i:=1) Zs;obtain rfl:(a.dot.life)-(b.dot.life)=av:=Option.some.inj aw;refine jV (AY underlying185 ty3 rfl rfl ax Zs) ?_;refine kE (B9 (v:= .int .i64 ((a.dot.life)-(b.dot.life))) (y:=(a.dot.life)-(b.dot.life)) ty3 rfl ay rfl) ?_;refine jF ?_ ?_
 ·intro hc41;refine jG ?_;refine kE (AA (c:=2) (Av rfl rfl Zd Zd) Zd) ?_;refine Ai.inLoop ?_;refine kJ ?_;refine Et ?_;obtain⟨aU,aV,az,aA,aB,aC⟩:=a0.sl.el (i:=2) Zs;obtain rfl:(a.dot.count)-(b.dot.count)=az:=Option.some.inj aA;refine jV (AY underlying185 ty3 rfl rfl aB Zs) ?_;refine kE (B9 (v:= .int .i64 ((a.dot.count)-(b.dot.count))) (y:=(a.dot.count)-(b.dot.count)) ty3 rfl aC rfl) ?_;refine jF ?_ ?_
  ·intro hc41;refine jG ?_;refine kE (AA (c:=3) (Av rfl rfl Zd Zd) Zd) ?_;refine Ai.inLoop ?_;refine kG ?_;refine jJ func145 ?_;exact⟨_,rfl,by unfold II Cf By;(repeat' split)<;>first|rfl|omega,K0,G0⟩
  intro hc41;refine jG ?_;refine kE (AA (c:=3) (Av rfl rfl Zd Zd) Zd) ?_;refine Ai.inLoop ?_;refine kG ?_;refine jJ func145 ?_;exact⟨_,rfl,by unfold II Cf By;(repeat' split)<;>first|rfl|omega,K0,G0⟩
 intro hc41;refine jG ?_;refine kE (AA (c:=2) (Av rfl rfl Zd Zd) Zd) ?_;refine Ai.inLoop ?_;refine kJ ?_;refine Et ?_;obtain⟨aW,aX,aD,aE,aF,aG⟩:=a0.sl.el (i:=2) Zs;obtain rfl:(a.dot.count)-(b.dot.count)=aD:=Option.some.inj aE;refine jV (AY underlying185 ty3 rfl rfl aF Zs) ?_;refine kE (B9 (v:= .int .i64 ((a.dot.count)-(b.dot.count))) (y:=(a.dot.count)-(b.dot.count)) ty3 rfl aG rfl) ?_;refine jF ?_ ?_
 ·intro hc41;refine jG ?_;refine kE (AA (c:=3) (Av rfl rfl Zd Zd) Zd) ?_;refine Ai.inLoop ?_;refine kG ?_;refine jJ func145 ?_;exact⟨_,rfl,by unfold II Cf By;(repeat' split)<;>first|rfl|omega,K0,G0⟩
 intro hc41;refine jG ?_;refine kE (AA (c:=3) (Av rfl rfl Zd Zd) Zd) ?_;refine Ai.inLoop ?_;refine kG ?_;refine jJ func145 ?_;exact⟨_,rfl,by unfold II Cf By;(repeat' split)<;>first|rfl|omega,K0,G0⟩
def im (a b:Aj)(w:World)(ha:DP a.dot)(hb:DP b.dot):Calls prog 145 #[.agg #[.string a.item,.int .i64 a.dot.node,.int .i64 a.dot.life,.int .i64 a.dot.count,.int .i64 a.qty,.int .u64 a.price],.agg #[.string b.item,.int .i64 b.dot.node,.int .i64 b.dot.life,.int .i64 b.dot.count,.int .i64 b.qty,.int .u64 b.price]] w (AU λv w'=>v= .int .i64 (II a b)/\As w w'):=(Yl a b w ha hb).mono λe w' ⟨v,h1,h2,h3,_⟩=>⟨v,h1,h2,h3⟩
end
section
def R0 {l:List Aj}{x:Aj}{j:Nat}(hno:GS (λy=>decide (y.dot=x.dot)) l j)(hj:l.length<=j):∀y∈l,y.dot≠x.dot:=λy hy=>by
 obtain⟨q,hq,rfl⟩:=AaI hy;exact of_decide_eq_false (hno q _ Zo (List.getElem?_eq_getElem hq))
def Pl (ms:List Ab)(cl:List Ah)(es:List Aj):AQ ms cl es 0=0:=rfl
def Xx {es:List Aj}{i:Nat}{x y:Aj}(hi:i<=es.length)(hy:es[i-1]? =some y)(h:DJ y x):∀z,(es.take i).getLast? =some z->DJ z x:=λz hz=>by
 have e:=(EV hi hz).2;rw[hy]at e;cases e;exact h
def Zm {es:List Aj}{i:Nat}{x:Aj}(hi:i<=es.length)(h:¬0<i):∀z,(es.take i).getLast? =some z->DJ z x:=λz hz=>absurd (EV hi hz).1 h
def Ez (es:List Aj):Prop:=∀x∈es,(0<=x.price/\x.price<18446744073709551616)/\x.item.size<=4294967295
def Xy {α:Type}{l:List α}{i:Nat}(h:i<=l.length):(l.take i).length=i:=by rw[List.length_take];omega
attribute [local irreducible] AD DP Cx BI By Ca B6 DJ Cf itemsN BZ AQ Bl BL Gr AK A2 X
def Zu (am:Option Addr)(ms:List Ab)(cm:Nat)(ac:Option Addr)(cl:List Ah)(cc:Nat)(ae:Option Addr)(es:List Aj)(ce:Nat)(i:Nat)(x0:Aj)(w:World)(hcap:es.length<=ce)(hs:Ax w am ms)(ht:Ax w ac cl)(hse:Ax w ae es)(hl:ms.length<=4294967295)(hl2:cl.length<=4294967295)(hl3:es.length<=4294967295)(hcan:BL ms cl=true)(h0:AQ ms cl es i=0)(hx0:es[i]? =some x0)(hp:0<=x0.price/\x0.price<18446744073709551616):
  Calls prog 80 #[.agg #[.slice ae es.length ce,.slice am ms.length cm,.slice ac cl.length cc],.int .i64 ((i:Nat):Int)] w (AU (λv w'=>v= .int .i64 (BZ ms cl (es.take i) x0)/\As w w')):=by
 have hil:=(List.getElem?_eq_some_iff.1 hx0).1;have hcx:=Fy.1 hcan;have htl:=Xy (Abr hil);refine kD (n:=69) func80 ?_;refine kQ ?_;intro a8 aD ap a1 ay;have:w.heap.size<=a8:=ap;clear ap;have K0:=(ay:As w _);refine Ii ?_;obtain⟨aE,aF,x,hx,az,a4⟩:=hse.eo i;have hc_9_lt:=a4.lt;refine jV (AY underlying27 ty76 rfl rfl az Zl) ?_;replace a4:=a4.ext K0;refine kP ?_;intro a5 aG a6 a0 aq;have aH:=Ak a1.lt a6;have aI:=Ak a4.lt a6;have:=Aaa K0.size a6;clear a6;refine jR<|jS a0 ?_;intro aJ a0 ar;obtain rfl:x=x0:=by rw[hx0]at hx;exact(Option.some.inj hx).symm
 clear hx;refine jG ?_;refine kS (ik x.item _) ?_;rintro _ aK ⟨rfl,a9⟩;refine jG ?_;replace a1:=((a1.ext aq).kp ar).ext a9;replace K0:=((K0.ext aq).n1 ar).ext a9;replace a0:=a0.ext a9;refine jF ?_ ?_
 ·intro hc13;refine kL func80 ?_;exact⟨_,rfl,by rw[MN hc13],K0⟩
 intro hc13;refine jG ?_;refine kE (Er rfl rfl rfl) ?_;refine jF ?_ ?_
 ·intro hc18;refine kL func80 ?_;exact⟨_,rfl,by rw[Pi hc13 Zo],K0⟩
 intro hc18;refine jG ?_;refine kS (Zg x.price _ hp.1 hp.2) ?_;rintro _ aL ⟨rfl,aa⟩;refine jG ?_;replace a1:=a1.ext aa;replace a0:=a0.ext aa;replace K0:=K0.ext aa;refine jF ?_ ?_
 ·intro hc27;refine kL func80 ?_;exact⟨_,rfl,by rw[Lt hc13 Zo hc27],K0⟩
 intro hc27;refine Et ?_;by_cases hA:B6 ms cl x.dot
 ·by_cases hB:0<i
  ·refine Ai.drawS [] [0,1001,2,1003,2004,5,6,7,8,9,10,1011,12,13,14,1016,2015,2017,18,19,20,21] ?_;intro aM ab;replace a1:=a1.ext ab;replace a0:=a0.ext ab;refine kF (jb a1 (jb a0 Jn)) ?_;replace K0:=K0.ext ab;refine jU rfl<|jC (Kf am ms cm ac cl cc x.dot _ (hs.ext K0) (ht.ext K0) Zo Zo) ?_;rintro _ aN ⟨rfl,ad⟩;replace a1:=a1.ext ad;replace a0:=a0.ext ad;refine Et ?_;refine jP ?_ (hx:=by exact λ_=>(DK (Bp rfl) (by simp[hA])));refine ET ?_;refine jQ ?_ (hx:=by exact λ_ hg=>(DR (GU rfl rfl) Zi));refine jG ?_;refine jQ ?_ (hx:=by exact λ_ hg=>(B8 rfl rfl Zo Zo));obtain⟨aO,aP,y,hy,aA,a7⟩:=hse.el (i:=(((i:Nat):Int)-1).toNat) Zl;have hc_32_lt:=a7.lt;replace K0:=K0.ext ad;refine jQ ?_ (hx:=by exact λ_ hg=>(HO underlying27 ty76 rfl rfl aA Zo Zl));refine jG ?_;replace a7:=a7.ext K0;refine jX rfl<|jO (B9 (v:= .agg #[.string y.item,.int .i64 y.dot.node,.int .i64 y.dot.life,.int .i64 y.dot.count,.int .i64 y.qty,.int .u64 y.price]) (y:=y) ty76 rfl a7 rfl) ?_;refine jG ?_;refine jX rfl<|jC (im y x _ (hcx.cov (firstE_all h0 _ y Zo hy).cov).sm (hcx.cov hA).sm) ?_;rintro _ aQ ⟨rfl,af⟩;replace a1:=a1.ext af;replace a0:=a0.ext af;refine jG ?_;refine jQ ?_ (hx:=by exact λ_ hg=>(BP rfl rfl rfl));refine jP ?_ (hx:=by exact λ_=>(Ed rfl rfl rfl));refine jG ?_;replace K0:=K0.ext af;refine jF ?_ ?_
   ·intro hc32;refine kL func80 ?_;exact⟨_,rfl,by rw[Gi hc13 Zo hc27 (.inr (.inl ⟨y,MR hB (by rw[<-ID Zo];exact hy),(Xv.1 hc32)⟩))],K0⟩
   intro hc32;refine jG ?_;refine kE (HH (m':=(es.take i).length) (B7 underlying27 ty76 rfl rfl Zo) Zt) ?_;refine Ai.loop (ι:=Nat) (λj ρ' w'=>Holds ρ' [(5,jp a5),(57,.slice ae ((es.take i).length) ce),(58,.int .i64 (((es.take i).length:Nat):Int)),(59,.int .i64 ((j:Nat):Int))]/\As w w'/\(AC w' a8 [.slice ae es.length ce,.slice am ms.length cm,.slice ac cl.length cc] 33)/\(AC w' a5 [.string x.item,.int .i64 x.dot.node,.int .i64 x.dot.life,.int .i64 x.dot.count,.int .i64 x.qty,.int .u64 x.price] 76)/\(j<=(es.take i).length)/\(GS (λy=>decide (y.dot=x.dot)) (es.take i) j)) (λj=>(es.take i).length-j) 0 ?_ ?_
   ·refine⟨⟨rfl,rfl,rfl,rfl,trivial⟩,K0,a1,a0,?_,?_⟩
    ·omega
    exact GS.zero _ _
   clear a1 a0;clear K0;rintro j aR aS ⟨au,K0,a1,a0,hj,hno⟩ ih1;obtain⟨ρ₀,rfl⟩:=au.ex;clear au;refine kK ?_ ?_
   ·intro hc60;obtain⟨aT,aU,z,hz,aV,aB⟩:=((hse.ext K0).take i).eo j;refine kP ?_;intro aW aX a2 av ag;have aY:=Ak a1.lt a2;have aZ:=Ak a0.lt a2;have b0:=Ak aB.lt a2;have:=Aaa K0.size a2;clear a2;refine jR<|jS av ?_;intro b1 av ah;replace a0:=(a0.ext ag).kp ah;refine jG ?_;refine kE (GK Zk rfl rfl (GA z.dot x.dot)) ?_;replace a1:=(a1.ext ag).kp ah;replace K0:=(K0.ext ag).n1 ah;refine jF ?_ ?_
    ·intro hc67;refine kL func80 ?_;exact⟨_,rfl,by rw[Gi hc13 Zo hc27 (.inr (.inr ⟨z,BH hz,hc67⟩))],K0⟩
    intro hc67;refine jG ?_;refine kC j ?_;refine ih1 (j+1) _ _ ?_ Zo;refine⟨⟨rfl,rfl,rfl,rfl,trivial⟩,K0,a1,a0,?_,?_⟩
    ·omega
    exact hno.step hz (decide_eq_false hc67)
   intro hc60;refine kL func80 ?_;exact⟨_,rfl,by rw[NR hc13 Zo hc27 hA (Xx Zo (by rw[<-ID Zo];exact hy) (Fa.1 Zo)) (R0 hno Zo)],K0⟩
  refine Ai.drawS [] [0,1001,2,1003,2004,5,6,7,8,9,10,11,12,13,14,15,16,2017,18,19,20,21] ?_;intro b2 ai;replace a1:=a1.ext ai;replace a0:=a0.ext ai;refine kF (jb a1 (jb a0 Jn)) ?_;replace K0:=K0.ext ai;refine jU rfl<|jC (Kf am ms cm ac cl cc x.dot _ (hs.ext K0) (ht.ext K0) Zo Zo) ?_;rintro _ b3 ⟨rfl,aj⟩;replace a1:=a1.ext aj;replace a0:=a0.ext aj;refine Et ?_;refine jP ?_ (hx:=by exact λ_=>(DK (Bp rfl) (by simp[hA])));refine ET ?_;refine jQ ?_ (hx:=by exact λ_ hg=>(DK (GU rfl rfl) Zi));refine jG ?_;refine jY ?_;refine jG ?_;refine jQ ?_ (hx:=by exact λ_ hg=>(Bo (b:=false) (e:=false) rfl rfl rfl));refine jP ?_ (hx:=by exact λ_=>(Ed rfl rfl rfl));refine kG ?_;refine kE (HH (m':=(es.take i).length) (B7 underlying27 ty76 rfl rfl Zo) Zt) ?_;replace K0:=K0.ext aj;refine Ai.loop (ι:=Nat) (λj ρ' w'=>Holds ρ' [(5,jp a5),(57,.slice ae ((es.take i).length) ce),(58,.int .i64 (((es.take i).length:Nat):Int)),(59,.int .i64 ((j:Nat):Int))]/\As w w'/\(AC w' a8 [.slice ae es.length ce,.slice am ms.length cm,.slice ac cl.length cc] 33)/\(AC w' a5 [.string x.item,.int .i64 x.dot.node,.int .i64 x.dot.life,.int .i64 x.dot.count,.int .i64 x.qty,.int .u64 x.price] 76)/\(j<=(es.take i).length)/\(GS (λy=>decide (y.dot=x.dot)) (es.take i) j)) (λj=>(es.take i).length-j) 0 ?_ ?_
  ·refine⟨⟨rfl,rfl,rfl,rfl,trivial⟩,K0,a1,a0,?_,?_⟩
   ·omega
   exact GS.zero _ _
  clear a1 a0;clear K0;rintro j b4 b5 ⟨aw,K0,a1,a0,hj,hno⟩ ih2;obtain⟨ρ₀,rfl⟩:=aw.ex;clear aw;refine kK ?_ ?_
  ·intro hc60;obtain⟨b6,b7,z,hz,b8,aC⟩:=((hse.ext K0).take i).eo j;refine kP ?_;intro b9 ba a3 ax ak;have bb:=Ak a1.lt a3;have bc:=Ak a0.lt a3;have be:=Ak aC.lt a3;have:=Aaa K0.size a3;clear a3;refine jR<|jS ax ?_;intro bg ax al;replace a0:=(a0.ext ak).kp al;refine jG ?_;refine kE (GK Zk rfl rfl (GA z.dot x.dot)) ?_;replace a1:=(a1.ext ak).kp al;replace K0:=(K0.ext ak).n1 al;refine jF ?_ ?_
   ·intro hc67;refine kL func80 ?_;exact⟨_,rfl,by rw[Gi hc13 Zo hc27 (.inr (.inr ⟨z,BH hz,hc67⟩))],K0⟩
   intro hc67;refine jG ?_;refine kC j ?_;refine ih2 (j+1) _ _ ?_ Zo;refine⟨⟨rfl,rfl,rfl,rfl,trivial⟩,K0,a1,a0,?_,?_⟩
   ·omega
   exact hno.step hz (decide_eq_false hc67)
  intro hc60;refine kL func80 ?_;exact⟨_,rfl,by rw[NR hc13 Zo hc27 hA (Zm Zo hB) (R0 hno Zo)],K0⟩
 refine Ai.drawS [] [0,1001,2,1003,2004,5,6,7,8,9,10,11,12,13,14,15,16,2017,18,19,20,21] ?_;intro bh an;replace a1:=a1.ext an;replace a0:=a0.ext an;refine kF (jb a1 (jb a0 Jn)) ?_;replace K0:=K0.ext an;refine jU rfl<|jC (Kf am ms cm ac cl cc x.dot _ (hs.ext K0) (ht.ext K0) Zo Zo) ?_;rintro _ bi ⟨rfl,ao⟩;replace a1:=a1.ext ao;replace a0:=a0.ext ao;refine Et ?_;refine jP ?_ (hx:=by exact λ_=>(DR (Bp rfl) (by simp[hA])));refine jG ?_;refine jY ?_;refine jG ?_;refine jP ?_ (hx:=by exact λ_=>(Er (b:=true) (e:=false) rfl rfl rfl));refine kI ?_;refine jJ func80 ?_;replace K0:=K0.ext ao;exact⟨_,rfl,by rw[Gi hc13 Zo hc27 (.inl hA)],K0⟩
end
end Go.Proofs.YtjkaicjmfgekjaaGreatDoor
