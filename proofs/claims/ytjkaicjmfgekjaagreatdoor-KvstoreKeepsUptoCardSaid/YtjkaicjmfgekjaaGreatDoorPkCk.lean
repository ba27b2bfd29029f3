/-
  Ck, Cl, Cm, Cn
-/
import Derived.Test.YtjkaicjmfgekjaaGreatDoorPkCf
import Derived.Test.YtjkaicjmfgekjaaGreatDoorPkRune
import Derived.Shelf.Small.Strs
set_option linter.all false
set_option maxRecDepth 100000
set_option maxHeartbeats 4000000
namespace Go.Proofs.YtjkaicjmfgekjaaGreatDoor
open Go.Proofs.Tryz
attribute [local irreducible] RD RS AA RL RA RT Cz Ai
section
attribute [local irreducible] AC DQ Cp BH Bz B4 Cb I5 JF B9 AU Cg UD Jq B5 setM Fp Lx Tl uniq Bb CP X
theorem YB (am:Option Addr)(ms:List Ab)(cm:Nat)(ac:Option Addr)(cl:List Ag)(cc:Nat)(am2:Option Addr)(ms2:List Ab)(cm2:Nat)(ac2:Option Addr)(cl2:List Ag)(cc2:Nat)(w:World)(hs:Av w am ms)(ht:Av w ac cl)(hs2:Av w am2 ms2)(ht2:Av w ac2 cl2)(hl:ms.length<=4294967295)(hl2:cl.length<=4294967295)(hl3:ms2.length<=4294967295)(hl4:cl2.length<=4294967295):
  Calls prog 148 #[.agg #[.slice am ms.length cm,.slice ac cl.length cc],.agg #[.slice am2 ms2.length cm2,.slice ac2 cl2.length cc2]] w (AN (fun v w'=>∃a1 c1 a2 c2,v= .tuple #[.agg #[.slice a1 (AU ms cl ms2 cl2).2.1.length c1,.slice a2 (AU ms cl ms2 cl2).2.2.length c2],.int .i64 (AU ms cl ms2 cl2).1]∧Af w' 46 a1 c1 (AU ms cl ms2 cl2).2.1∧Af w' 73 a2 c2 (AU ms cl ms2 cl2).2.2∧(∀q,own a1 q->¬own a2 q)∧(∀q,own a1 q->w.heap.size<=q)∧(∀q,own a2 q->w.heap.size<=q)∧Ap w w')):=by
 refine Ac (n:=30) func148 rfl rfl rfl ?_;refine jG ?_;refine jR<|jB ?_;intro aP bG aQ a0 b5;have:w.heap.size<=aP:=aQ;clear aQ;have K0:=(b5:Ap w _);refine jR<|jB ?_;intro b6 bH av a3 aR;have bI:=Ak a0.lt av;have:=Aaa K0.size av;clear av;refine jR<|jA ?_;intro bJ bK ak a4 aw;replace a0:=a0.ext aR;have bL:=Ak a0.lt ak;have bM:=Ak a3.lt ak;replace K0:=K0.ext aR;have:=Aaa K0.size ak;clear ak;replace a0:=a0.ext aw;refine jG ?_;replace K0:=K0.ext aw;refine jR<|jC (UB am ms cm ac cl cc _ (hs.ext K0) (ht.ext K0) Zo Zo) ?_;rintro _ bN ⟨rfl,al⟩;replace a3:=(a3.ext aw).ext al;refine jG ?_;replace K0:=K0.ext al;refine RL.gcall (vals:=[.agg #[.slice am2 ms2.length cm2,.slice ac2 cl2.length cc2]]) (BZ rfl rfl rfl rfl) en79.h (fun hg=>(CR (BR hg) Hw)) (fun hg=>(UB am2 ms2 cm2 ac2 cl2 cc2 _ (hs2.ext K0) (ht2.ext K0) Zo Zo)) ?_;intro bO an;refine jG ?_;refine jV (D8 rfl rfl rfl) ?_;refine jG ?_;replace a0:=(a0.ext al).ext an;replace a4:=(a4.ext al).ext an;replace a3:=a3.ext an;replace K0:=K0.ext an;refine jF ?_ ?_
 ·intro hc13
  refine jG ?_;refine jV (AI (cells:=#[.slice none 0 0,.slice none 0 0]) Zk) ?_;refine jR<|jS a4 ?_;intro bP a4 ax;refine jG ?_;refine Ai.retCT (x:= .int .i64 30) (cs:=#[.slice none 0 0,.slice none 0 0]) func148 rfl ty31 rfl rfl a4.cl rfl ?_;rw[Ou (by intro h_;simp[h_.1,h_.2]at hc13)];replace a0:=a0.kp ax;replace a3:=a3.kp ax;replace K0:=K0.n1 ax;exact⟨_,rfl,none,0,none,0,rfl,Af.nil _ _,Af.nil _ _,fun _ h_=>absurd h_ (Ae _),fun _ h_=>absurd h_ (Ae _),fun _ h_=>absurd h_ (Ae _),K0⟩
 ·intro hc13
  have hj:BK ms cl=true∧BK ms2 cl2=true:=by simpa using hc13
  have hj1:=Fj.1 hj.1;have hj2:=Fj.1 hj.2;have hjl1:=hj1.1;have hjl2:=hj1.2.1;have hjl3:=hj2.1;have hjl4:=hj2.2.1;refine jG ?_;refine Ai.drawT [] (m:=17) Zk rfl ?_;intro bQ ao;refine⟨fun w'=>AB w' aP [.slice am ms.length cm,.slice ac cl.length cc] 31∧AB w' b6 [.slice am2 ms2.length cm2,.slice ac2 cl2.length cc2] 31∧True,?_⟩;replace a0:=a0.ext ao;replace a3:=a3.ext ao;refine RT.takeP 0 rfl Zk (.inr ⟨a0,a3,trivial⟩) (fun _=>(Jf (o':=0) underlying31 rfl ty28 rfl rfl rfl)) ?_;refine RT.take 1 rfl Zk ⟨a0,a3,trivial⟩ (by rintro _ ⟨a0,a3,-⟩;exact(HI ty28 rfl rfl (a0.cl.field (i:=0) rfl))) ?_;refine RT.takeP 2 rfl Zk (.inr ⟨a0,a3,trivial⟩) (fun _=>(Jf (o':=0) underlying31 rfl ty28 rfl rfl rfl)) ?_;refine RT.take 3 rfl Zk ⟨a0,a3,trivial⟩ (by rintro _ ⟨a0,a3,-⟩;exact(HI ty28 rfl rfl (a3.cl.field (i:=0) rfl))) ?_;refine RT.takeP 6 rfl Zk (.inr ⟨a0,a3,trivial⟩) (fun _=>(Jf (o':=1) underlying31 rfl ty29 rfl rfl rfl)) ?_;refine RT.take 7 rfl Zk ⟨a0,a3,trivial⟩ (by rintro _ ⟨a0,a3,-⟩;exact(HI ty29 rfl rfl (a0.cl.field (i:=1) rfl))) ?_;refine RT.takeP 8 rfl Zk (.inr ⟨a0,a3,trivial⟩) (fun _=>(Jf (o':=1) underlying31 rfl ty29 rfl rfl rfl)) ?_;refine RT.take 9 rfl Zk ⟨a0,a3,trivial⟩ (by rintro _ ⟨a0,a3,-⟩;exact(HI ty29 rfl rfl (a3.cl.field (i:=1) rfl))) ?_;replace a4:=a4.ext ao;replace K0:=K0.ext ao;refine RT.fork2 4 10 Zk ?_ ?_
  ·refine Cz.st rfl<|AA.buildSlice ([⟨am,ms.length,cm⟩,⟨am2,ms2.length,cm2⟩]:List SH) underlying53 ty28 rfl rfl Ze ?_
   intro bR bS aS a5 ap;have b7:=Aw (CV aS) a4.lt;clear aS;replace a0:=a0.ext ap;replace a3:=a3.ext ap;refine⟨.inr ⟨a0,a3,trivial⟩,?_⟩;replace a4:=a4.ext ap;replace K0:=K0.ext ap;refine RT.fork2 5 10 Zk ?_ ?_
   ·refine Cz.st rfl<|jC (PM _ _ _ _ _ _ a5.sl (DS.two rfl (hs.ext K0) rfl (hs2.ext K0)) Zo) ?_
    rintro _ bT ⟨bU,bV,rfl,ay,b8,a9⟩;clear b8;replace a0:=a0.ext a9;replace a3:=a3.ext a9;refine⟨.inr ⟨a0,a3,trivial⟩,?_⟩;refine RT.st 10 rfl Zk rfl<|AA.buildSlice ([⟨ac,cl.length,cc⟩,⟨ac2,cl2.length,cc2⟩]:List SH) underlying295 ty29 rfl rfl Ze ?_;intro bW bX b9 ba a6;clear b9;replace a0:=a0.ext a6;replace a3:=a3.ext a6;refine⟨.inr ⟨a0,a3,trivial⟩,?_⟩;replace K0:=(K0.ext a9).ext a6;refine RT.st 11 rfl Zk rfl<|jC (PN _ _ _ _ _ _ ba.sl (DS.two rfl (ht.ext K0) rfl (ht2.ext K0)) Zo) ?_;rintro _ bY ⟨bZ,c0,rfl,bb,bc,a7⟩;clear bc;replace a0:=a0.ext a7;replace a3:=a3.ext a7;refine⟨.inr ⟨a0,a3,trivial⟩,?_⟩;replace ay:=(ay.ext a6).ext a7;refine RT.st 12 rfl Zk rfl<|jC (Nf _ (ms++ms2) _ _ (cl++cl2) _ _ ay.sl bb.sl Zn) ?_;rintro _ c3 ⟨aT,aU,aV,aW,rfl,az,aA,be,aB,aC,aa⟩;replace a4:=((a4.ext a9).ext a6).ext a7;have bg:=Aw aB a4.lt;replace K0:=K0.ext a7;have bh:=Bd K0.size aB;have bi:=Aw aC a4.lt;have bj:=Bd K0.size aC;clear aB aC;replace a0:=a0.ext aa;replace a3:=a3.ext aa;refine⟨.inr ⟨a0,a3,trivial⟩,?_⟩;refine RT.takeP 13 rfl Zk (.inr ⟨a0,a3,trivial⟩) (fun _=>(DV rfl rfl)) ?_;refine RT.takeP 14 rfl Zk (.inr ⟨a0,a3,trivial⟩) (fun _=>(DV rfl rfl)) ?_;replace a4:=a4.ext aa;refine RT.st 15 rfl Zk rfl<|jS a4 ?_;intro c4 a4 a8;replace a0:=a0.kp a8;replace a3:=a3.kp a8;refine⟨.inr ⟨a0,a3,trivial⟩,?_⟩;refine RT.takeP 16 rfl Zk (.inr ⟨a0,a3,trivial⟩) (fun _=>(E0 rfl)) ?_;refine RT.done Zk ?_;refine Ai.retCT (x:= .int .i64 ((B9 (ms++ms2) (cl++cl2)).1)) (cs:=#[.slice aT ((B9 (ms++ms2) (cl++cl2)).2.1.length) aU,.slice aV ((B9 (ms++ms2) (cl++cl2)).2.2.length) aW]) func148 rfl ty31 rfl rfl a4.cl rfl ?_;rw[Gg hj.1 hj.2];replace a5:=((((a5.ext a9).ext a6).ext a7).ext aa).kO a8 (Aa b7);replace K0:=(K0.ext aa).n1 a8;replace az:=az.kO a8 (Aa bg);replace aA:=aA.kO a8 (Aa bi);exact⟨_,rfl,aT,aU,aV,aW,rfl,az,aA,be,bh,bj,K0⟩
   ·refine Cz.st rfl<|AA.buildSlice ([⟨ac,cl.length,cc⟩,⟨ac2,cl2.length,cc2⟩]:List SH) underlying295 ty29 rfl rfl Ze ?_
    intro c5 c6 bk aD ab;clear bk;replace a0:=a0.ext ab;replace a3:=a3.ext ab;refine⟨.inr ⟨a0,a3,trivial⟩,?_⟩;replace a5:=a5.ext ab;replace K0:=K0.ext ab;refine RT.st 5 rfl Zk rfl<|jC (PM _ _ _ _ _ _ a5.sl (DS.two rfl (hs.ext K0) rfl (hs2.ext K0)) Zo) ?_;rintro _ c7 ⟨c8,c9,rfl,aE,bl,ad⟩;clear bl;replace a0:=a0.ext ad;replace a3:=a3.ext ad;refine⟨.inr ⟨a0,a3,trivial⟩,?_⟩;replace aD:=aD.ext ad;replace K0:=K0.ext ad;refine RT.st 11 rfl Zk rfl<|jC (PN _ _ _ _ _ _ aD.sl (DS.two rfl (ht.ext K0) rfl (ht2.ext K0)) Zo) ?_;rintro _ ca ⟨cb,cd,rfl,bm,bn,ae⟩;clear bn;replace a0:=a0.ext ae;replace a3:=a3.ext ae;refine⟨.inr ⟨a0,a3,trivial⟩,?_⟩;replace aE:=aE.ext ae;refine RT.st 12 rfl Zk rfl<|jC (Nf _ (ms++ms2) _ _ (cl++cl2) _ _ aE.sl bm.sl Zn) ?_;rintro _ ce ⟨aX,aY,aZ,b0,rfl,aF,aG,bo,aH,aI,aq⟩;replace a4:=((a4.ext ab).ext ad).ext ae;have bp:=Aw aH a4.lt;replace K0:=K0.ext ae;have bq:=Bd K0.size aH;have bs:=Aw aI a4.lt;have bt:=Bd K0.size aI;clear aH aI;replace a0:=a0.ext aq;replace a3:=a3.ext aq;refine⟨.inr ⟨a0,a3,trivial⟩,?_⟩;refine RT.takeP 13 rfl Zk (.inr ⟨a0,a3,trivial⟩) (fun _=>(DV rfl rfl)) ?_;refine RT.takeP 14 rfl Zk (.inr ⟨a0,a3,trivial⟩) (fun _=>(DV rfl rfl)) ?_;replace a4:=a4.ext aq;refine RT.st 15 rfl Zk rfl<|jS a4 ?_;intro cf a4 af;replace a0:=a0.kp af;replace a3:=a3.kp af;refine⟨.inr ⟨a0,a3,trivial⟩,?_⟩;refine RT.takeP 16 rfl Zk (.inr ⟨a0,a3,trivial⟩) (fun _=>(E0 rfl)) ?_;refine RT.done Zk ?_;refine Ai.retCT (x:= .int .i64 ((B9 (ms++ms2) (cl++cl2)).1)) (cs:=#[.slice aX ((B9 (ms++ms2) (cl++cl2)).2.1.length) aY,.slice aZ ((B9 (ms++ms2) (cl++cl2)).2.2.length) b0]) func148 rfl ty31 rfl rfl a4.cl rfl ?_;rw[Gg hj.1 hj.2];replace K0:=(K0.ext aq).n1 af;replace aF:=aF.kO af (Aa bp);replace aG:=aG.kO af (Aa bs);exact⟨_,rfl,aX,aY,aZ,b0,rfl,aF,aG,bo,bq,bt,K0⟩
  ·refine Cz.st rfl<|AA.buildSlice ([⟨ac,cl.length,cc⟩,⟨ac2,cl2.length,cc2⟩]:List SH) underlying295 ty29 rfl rfl Ze ?_
   intro cg ch bu aJ ar;clear bu;replace a0:=a0.ext ar;replace a3:=a3.ext ar;refine⟨.inr ⟨a0,a3,trivial⟩,?_⟩;refine RT.st 4 rfl Zk rfl<|AA.buildSlice ([⟨am,ms.length,cm⟩,⟨am2,ms2.length,cm2⟩]:List SH) underlying53 ty28 rfl rfl Ze ?_;intro ci cj bv bw ag;clear bv;replace a0:=a0.ext ag;replace a3:=a3.ext ag;refine⟨.inr ⟨a0,a3,trivial⟩,?_⟩;replace K0:=(K0.ext ar).ext ag;refine RT.st 5 rfl Zk rfl<|jC (PM _ _ _ _ _ _ bw.sl (DS.two rfl (hs.ext K0) rfl (hs2.ext K0)) Zo) ?_;rintro _ ck ⟨cn,co,rfl,aK,bx,ah⟩;clear bx;replace a0:=a0.ext ah;replace a3:=a3.ext ah;refine⟨.inr ⟨a0,a3,trivial⟩,?_⟩;replace aJ:=(aJ.ext ag).ext ah;replace K0:=K0.ext ah;refine RT.st 11 rfl Zk rfl<|jC (PN _ _ _ _ _ _ aJ.sl (DS.two rfl (ht.ext K0) rfl (ht2.ext K0)) Zo) ?_;rintro _ cp ⟨cq,cr,rfl,bz,bA,ai⟩;clear bA;replace a0:=a0.ext ai;replace a3:=a3.ext ai;refine⟨.inr ⟨a0,a3,trivial⟩,?_⟩;replace aK:=aK.ext ai;refine RT.st 12 rfl Zk rfl<|jC (Nf _ (ms++ms2) _ _ (cl++cl2) _ _ aK.sl bz.sl Zn) ?_;rintro _ ct ⟨b1,b2,b3,b4,rfl,aL,aM,bB,aN,aO,au⟩;replace a4:=(((a4.ext ar).ext ag).ext ah).ext ai;have bC:=Aw aN a4.lt;replace K0:=K0.ext ai;have bD:=Bd K0.size aN;have bE:=Aw aO a4.lt;have bF:=Bd K0.size aO;clear aN aO;replace a0:=a0.ext au;replace a3:=a3.ext au;refine⟨.inr ⟨a0,a3,trivial⟩,?_⟩;refine RT.takeP 13 rfl Zk (.inr ⟨a0,a3,trivial⟩) (fun _=>(DV rfl rfl)) ?_;refine RT.takeP 14 rfl Zk (.inr ⟨a0,a3,trivial⟩) (fun _=>(DV rfl rfl)) ?_;replace a4:=a4.ext au;refine RT.st 15 rfl Zk rfl<|jS a4 ?_;intro cu a4 aj;replace a0:=a0.kp aj;replace a3:=a3.kp aj;refine⟨.inr ⟨a0,a3,trivial⟩,?_⟩;refine RT.takeP 16 rfl Zk (.inr ⟨a0,a3,trivial⟩) (fun _=>(E0 rfl)) ?_;refine RT.done Zk ?_;refine Ai.retCT (x:= .int .i64 ((B9 (ms++ms2) (cl++cl2)).1)) (cs:=#[.slice b1 ((B9 (ms++ms2) (cl++cl2)).2.1.length) b2,.slice b3 ((B9 (ms++ms2) (cl++cl2)).2.2.length) b4]) func148 rfl ty31 rfl rfl a4.cl rfl ?_;rw[Gg hj.1 hj.2];replace K0:=(K0.ext au).n1 aj;replace aL:=aL.kO aj (Aa bC);replace aM:=aM.kO aj (Aa bE);exact⟨_,rfl,b1,b2,b3,b4,rfl,aL,aM,bB,bD,bF,K0⟩
end
section
section
open Ieee Ieee.Format
def A4 (b:Int):Prop:=b<=9218868437227405312∨b=9223372036854775808
instance (b :Int):Decidable (A4 b):=by unfold A4;infer_instance
theorem WL (x:Int):(some (compare x 0)=some Ordering.gt∨some (compare x 0)=some Ordering.eq)↔0<=x:=by
 have e:compare x 0=if x<0 then .lt else if x=0 then .eq else .gt:=by simp only[compare,compareOfLessAndEq]
 rw[e]
 by_cases h1:x<0
 ·simp[h1]
 ·by_cases h2:x=0
  ·simp[h2]
  ·simp[h1,h2];omega
theorem gA (k:Nat):signed false 0 k=0:=by simp[signed]
theorem ie (m k:Nat):0<=signed false m k:=by simp only[signed,Abj,if_false];exact Int.natCast_nonneg _
theorem ig (m k:Nat):0<=signed true m k↔m=0:=by
 simp only[signed,if_true]
 have h:m<<<k=m*2^k:=Nat.shiftLeft_eq m k
 constructor
 ·intro h1
  have h2:m*2^k=0:=by omega
  rcases Nat.mul_eq_zero.1 h2 with h3|h3
  ·exact h3
  ·exact absurd h3 (Nat.ne_of_gt (Nat.two_pow_pos k))
 ·rintro rfl;simp
theorem read_zero :Ieee.double.read 0= .number false 0 Ieee.double.leastPlace:=by decide+kernel
theorem OB {b:Nat}(hb:b<18446744073709551616):(Ieee.double.order b 0=some .gt∨Ieee.double.order b 0=some .eq)↔A4 b:=by
 have e1:Ieee.double.signWeight=9223372036854775808:=by decide+kernel
 have e2:Ieee.double.binade=4503599627370496:=by decide+kernel
 have e3:Ieee.double.infRung=9218868437227405312:=by decide+kernel
 unfold Format.order A4
 rw[read_zero]
 unfold Format.read
 simp only[e1,e2,e3]
 by_cases hs:b<9223372036854775808
 ·have hn:(b/9223372036854775808%2==1)=false:=by simp;omega
  have hr:b%9223372036854775808=b:=Nat.mod_eq_of_lt hs
  rw[hn,hr]
  split
  ·simp only[Datum.order,gA,WL,ie,true_iff];omega
  ·split
   ·simp only[Datum.order,gA,WL,ie,true_iff];omega
   ·split
    ·simp[Datum.order];omega
    ·simp[Datum.order];omega
 ·have hn:(b/9223372036854775808%2==1)=true:=by simp;omega
  have hr:b%9223372036854775808=b-9223372036854775808:=by omega
  rw[hn,hr]
  split
  ·simp only[Datum.order,gA,WL,ig];omega
  ·split
   ·simp only[Datum.order,gA,WL,ig];omega
   ·split
    ·simp[Datum.order];omega
    ·simp[Datum.order];omega
theorem Z8 {P:Program}{n:FN}{ρ:A8}{w:World}{dst:Option Nat}{ty:TypeId}{pos:String}{af:Array Edge}{g:Option (Nat×Bool)}{t t':TypeId}{x y:Operand}{b:Int}(h0:0<=b)(h1:b<18446744073709551616)(hx:rd n ρ x= .float .f64 b.toNat)(hy:rd n ρ y= .float .f64 0):
  X P n ρ ⟨dst,.binOp .geq t x y t',ty,pos,af,g⟩ w (.bool (decide (A4 b))) w:=by
 have h:=OB (b:=b.toNat) Zo
 rw[AaQ h0]at h
 have e:(Ieee.double.order b.toNat 0==some .gt||Ieee.double.order b.toNat 0==some .eq)=decide (A4 b):=by
  rw[AaC,AbD,beq_iff_eq,beq_iff_eq,decide_eq_true_eq];exact h
 rw[<-e]
 simp[X,execOp,hx,hy,eqGuard,binOp,Op.floatCmp,FloatKind.format]
end
def I6 (c:UInt8):Bool:=decide (¬(97<=(c.toNat:Int)∧(c.toNat:Int)<=122)∧¬(65<=(c.toNat:Int)∧(c.toNat:Int)<=90)∧¬(48<=(c.toNat:Int)∧(c.toNat:Int)<=57)∧(c.toNat:Int)≠46∧(c.toNat:Int)≠45∧(c.toNat:Int)≠95)
def AP (s:ByteArray):Bool:=decide (s≠⟨#[]⟩∧s.size<=32)&& !(s.data.toList.any I6)
theorem SC {s:ByteArray}{i:Nat}{c:UInt8}(hx:s.data.toList[i]? =some c)(h:I6 c=true):AP s=false:=by rw[AP,TG hx h];simp
def JG (r:Nat):Bool:=decide (¬(97<=r∧r<=122)∧¬(65<=r∧r<=90)∧¬(48<=r∧r<=57)∧r≠46∧r≠45∧r≠95)
theorem set_ascii :∀n:Fin 128,(0<=Lib.indexByte [45,95,46] (IntKind.u8.wrap ((n.1:Nat):Int)).toNat.toUInt8↔(n.1=45∨n.1=95∨n.1=46)):=by decide+kernel
theorem YC {r:Int}(h0:0<=r)(h:r<128):0<=Lib.indexByte ((⟨#[45,95,46]⟩:ByteArray).data.toList) (IntKind.u8.wrap r).toNat.toUInt8↔r=45∨r=95∨r=46:=by
 have:=set_ascii ⟨r.toNat,by omega⟩
 simp only[AaQ h0]at this
 rw[show(⟨#[45,95,46]⟩:ByteArray).data.toList=[45,95,46]from rfl,this]
 omega
theorem set_far :∀c:UInt8,128<=c.toNat->(Lib.indexByte [46] c= -1∧Lib.indexByte [] c= -1):=by
 have:∀n:Fin 256,128<=(UInt8.ofNat n.1).toNat->(Lib.indexByte [46] (UInt8.ofNat n.1)= -1∧Lib.indexByte [] (UInt8.ofNat n.1)= -1):=by decide+kernel
 intro c hc
 have h:=this ⟨c.toNat,c.toNat_lt⟩
 simp only[UInt8.ofNat_toNat]at h
 exact h hc
theorem UX {m:Nat}{c:UInt8}(h1:1<=m)(h3:m<3)(hc:128<=c.toNat):Lib.indexByte ((⟨#[45,95,46]⟩:ByteArray).extract (m+1) (⟨#[45,95,46]⟩:ByteArray).size).data.toList (c.toNat:Int).toNat.toUInt8= -1:=by
 have e:(c.toNat:Int).toNat.toUInt8=c:=by simp[Nat.toUInt8]
 rw[e]
 have h:=set_far c hc
 rcases (show m=1∨m=2 by omega)with rfl|rfl
 ·exact h.1
 ·exact h.2
theorem UY {m:Nat}(h1:1<=m)(h3:m<3):∃d:UInt8,(⟨#[45,95,46]⟩:ByteArray).data.toList[m]? =some d∧d.toNat<128:=by
 rcases (show m=1∨m=2 by omega)with rfl|rfl
 ·exact⟨95,rfl,by decide⟩
 ·exact⟨46,rfl,by decide⟩
theorem KY (r:Int):Utf8.valid r=(decide (0<=r)&&decide (r<55296)||decide (57344<=r)&&decide (r<=1114111)):=rfl
theorem JW {P:Program}{f:FuncId}{a:Array Value}{w:World}{v:Value}(h:Calls P f a w fun e w'=>e= .returned v∧w'=w):Calls P f a w (AN fun x w'=>x=v∧w=w'):=h.mono fun e w' ⟨h1,h2⟩=>⟨_,h1,rfl,h2.symm⟩
theorem UZ {w w':World}(h:RowKit.Below w.heap.size w w'):Ap w w':=⟨h.os,h.tape,h.output,h.size,fun k hk _=>h.block k hk⟩
theorem SD (s : ByteArray) : Lib.idxFunc JG true s < 0 ↔ s.data.toList.any I6 = false := by
  have key : ∀ (f p : Nat), p + f = s.size -> (Lib.idxFuncFrom JG true s f p < 0 ↔ (s.data.toList.drop p).any I6 = false) := by
    intro f
    induction f with
    | zero =>
      intro p hp
      rw [AaY (by rw [Gv]; omega)]
      simp [Lib.idxFuncFrom]
    | succ f ih =>
      intro p hp
      have hps : p < s.size := by omega
      have hpl : p < s.data.toList.length := by rw [Gv]; exact hps
      obtain ⟨c, hc⟩ := ZI s hps
      have hcg : s[p]'hps = c := by
        obtain ⟨h1, h2⟩ := List.getElem?_eq_some_iff.1 hc
        rw [<- h2]; rfl
      have hd : s.data.toList.drop p = c :: s.data.toList.drop (p + 1) := by
        obtain ⟨h1, rfl⟩ := List.getElem?_eq_some_iff.1 hc
        exact AbC h1
      unfold Lib.idxFuncFrom
      rw [if_pos hps, hd, List.any_cons]
      by_cases ha : c.toNat < 128
      · have hdec := decode_ascii s p hps (by rw [hcg]; exact ha)
        rw [hdec, hcg]
        have hb : JG c.toNat = I6 c := by
          unfold JG I6
          rw [decide_eq_decide]
          omega
        rw [hb]
        cases hbb : I6 c with
        | true => simp
        | false => simpa using ih (p + 1) Zo
      · have hbad : I6 c = true := by unfold I6; rw [decide_eq_true_eq]; omega
        have hrune : JG (Utf8.decode s p).1 = true := by
          have hge : 128 <= (Utf8.decode s p).1 := by
            have e : s.get! (p + 0) = c := by
              show s.get! p = _
              rw [<- hcg]
              simp [ByteArray.get!, getElem!_pos, hps]
              rfl
            unfold Utf8.decode
            simp only [e, ha, if_false]
            split
            · split
              · rename_i h; exact Aaa Zd h
              · decide
            · split
              · split
                · rename_i h; simp only [Aao, decide_eq_true_eq] at h; exact Aaa Zd h.1
                · decide
              · split
                · split
                  · rename_i h; simp only [Aao, decide_eq_true_eq] at h; exact Aaa Zd h.1
                  · decide
                · decide
          unfold JG; rw [decide_eq_true_eq]; omega
        rw [hrune, hbad]
        simp
  have h := key s.size 0 Zo
  simpa [Lib.idxFunc] using h
theorem WM (s:ByteArray):(!decide (s=⟨#[]⟩)&&decide ((s.size:Int)<=32)&&decide (Lib.idxFunc JG true s<0))=AP s:=by
 rw[AP,AaC]
 simp only[Aao,AaO,decide_eq_false_iff_not,decide_eq_true_eq,SD,ne_eq]
 constructor
 ·rintro⟨⟨h1,h2⟩,h3⟩;exact⟨⟨h1,by omega⟩,h3⟩
 ·rintro⟨⟨h1,h2⟩,h3⟩;exact⟨⟨h1,by omega⟩,h3⟩
attribute [local irreducible] X
theorem YD (b:Int)(w:World)(h0:0<=b)(h1:b<18446744073709551616):
  Calls prog 143 #[.int .u64 b] w (AN (fun v w'=>v= .bool (decide (A4 b))∧Ap w w')):=by
 refine Ac (n:=6) func143 rfl rfl rfl ?_;refine jG ?_;refine jR<|AA.extn (vals:=[.int .u64 b]) (v:= .float .f64 b.toNat) rfl (by rw[run_callFunc_extern func201 Zk Zk Zk (e:=Extern.MathFloatBits.float64frombits) Zk];rfl) ?_;refine jV (Z8 h0 h1 rfl rfl) ?_;refine jG ?_;refine jJ func143 ?_;exact⟨_,rfl,rfl,(Ad.refl _ w)⟩
theorem PS (r:Int)(w:World):
  Calls prog 278 #[.int .i32 r] w (AN (fun v w'=>v= .bool (Utf8.valid r)∧Ap w w')):=by
 refine Ac (n:=17) func278 rfl rfl rfl ?_;refine jG ?_;refine jV (Be rfl rfl rfl) ?_;refine jG ?_;refine jF ?_ ?_
 ·intro hc3
  refine jG ?_;refine jJ func278 ?_;exact⟨_,rfl,congrArg Value.bool (by rw[KY];simp;omega),(Ad.refl _ w)⟩
 ·intro hc3
  refine jG ?_;refine jV (Be rfl rfl rfl) ?_;refine jG ?_;refine jF ?_ ?_
  ·intro hc10
   refine jG ?_;refine jJ func278 ?_;exact⟨_,rfl,congrArg Value.bool (by rw[KY];simp;omega),(Ad.refl _ w)⟩
  ·intro hc10
   refine jG ?_;refine jJ func278 ?_;exact⟨_,rfl,congrArg Value.bool (by rw[KY];simp;omega),(Ad.refl _ w)⟩
theorem U0 (r:Int)(w:World)(h0:0<=r)(h1:r<=1114111):
  Calls prog 238 #[.string (⟨#[45,95,46]⟩:ByteArray),.int .i32 r] w (AN (fun v w'=>∃q:Int,v= .int .i64 q∧(0<=q↔r=45∨r=95∨r=46)∧Ap w w')):=by
 refine Ac (n:=187) func238 rfl rfl rfl ?_;refine FW ?_;by_cases hA:r<128
 ·refine FW ?_
  refine jV (DN (LH rfl rfl) (decide_eq_true h0)) ?_;refine Em ?_;refine jT<|jO (DN (FZ rfl rfl) (decide_eq_true hA)) ?_;refine jV (BU rfl rfl rfl) ?_;refine jG ?_;refine C4 ?_;refine jG ?_;refine jV (Fy rfl ⟨_,underlying21⟩ underlying5) ?_;refine jR<|jC (JW (Any.strings_IndexByte idxBL (⟨#[45,95,46]⟩:ByteArray) (IntKind.u8.wrap r) _)) ?_;rintro _ _ ⟨rfl,rfl⟩;refine jG ?_;refine jJ func238 ?_;exact⟨_,rfl,_,rfl,YC h0 hA,(Ad.refl _ w)⟩
 ·refine FW ?_
  refine jV (DN (LH rfl rfl) (decide_eq_true h0)) ?_;refine Em ?_;refine jT<|jO (D9 (FZ rfl rfl) (decide_eq_false hA)) ?_;refine jV (BU rfl rfl rfl) ?_;refine jG ?_;refine Ai.condF rfl ?_;refine El ?_;by_cases hB:r=65533
  ·refine FW ?_
   refine jV (DN (H2 rfl rfl) (by simp[hB])) ?_;refine jG ?_;refine C4 ?_;refine jG ?_;refine jR<|AA.rangeStr underlying9 rfl ?_;intro a0 ad a1 a2 a3;have:w.heap.size<=a0:=a1;have K0:=(a3:Ap w _);refine jG ?_;refine Ai.unloop ?_;refine jG ?_;refine jR<|AA.nextStr (p:=0) (r:=45) (wd:=1) rfl a2 Zd (by decide+kernel) ?_;intro ae a4 a5;refine jG ?_;refine C4 ?_;refine jG ?_;refine Ai.condF rfl ?_;refine jG ?_;refine Ai.inLoop ?_;refine jG ?_;refine jR<|AA.nextStr (p:=1) (r:=95) (wd:=1) rfl a4 Zd (by decide+kernel) ?_;intro af a6 a7;refine jG ?_;refine C4 ?_;refine jG ?_;refine Ai.condF rfl ?_;refine jG ?_;refine Ai.inLoop ?_;refine jG ?_;refine jR<|AA.nextStr (p:=2) (r:=46) (wd:=1) rfl a6 Zd (by decide+kernel) ?_;intro ag a8 a9;refine jG ?_;refine C4 ?_;refine jG ?_;refine Ai.condF rfl ?_;refine jG ?_;refine Ai.inLoop ?_;refine jG ?_;refine jR<|AA.nextEnd rfl a8 Zd ?_;refine jG ?_;refine Ai.condF rfl ?_;refine jG ?_;refine jJ func238 ?_;replace K0:=((K0.n1 a5).n1 a7).n1 a9;exact⟨_,rfl,_,rfl,by omega,K0⟩
  ·refine FW ?_
   refine jV (D9 (H2 rfl rfl) (by simp[hB])) ?_;refine jG ?_;refine Ai.condF rfl ?_;refine jG ?_;refine jR<|jC (PS _ _) ?_;rintro _ ah ⟨rfl,aa⟩;have K0:=(aa:Ap w _);refine jG ?_;refine jF ?_ ?_
   ·intro hc183
    skip
    refine jG ?_;refine jJ func238 ?_;exact⟨_,rfl,_,rfl,by omega,K0⟩
   ·intro hc183
    obtain⟨m,c,hm1,hm3,hsz,hcc,hc8⟩:=PR hc183 Zo;refine jG ?_;refine jV (SB Zk underlying9 rfl) ?_;refine jG ?_;refine jV (Az (c:=((m+1:Nat):Int)) (DC underlying9 rfl) (by rw[hsz])) ?_;refine jV (Az (c:=((m:Nat):Int)) (BT rfl rfl Zo Zo) Zo) ?_;refine jG ?_;refine Ai.unloop ?_;refine jG ?_;refine jV (Az (c:=3) (DC underlying9 rfl) Zd) ?_;refine jG ?_;refine jF ?_ ?_
    ·intro hc26
     refine jG ?_;obtain⟨d,hd,hd8⟩:=UY hm1 Zo;refine Ai.drawR ?_;intro ai ab;refine jG ?_;refine jD (IJ (i:=m) (c:=d) underlying9 rfl rfl hd) ?_;refine jG ?_;refine jD (IJ (i:=m) (c:=c) underlying9 rfl rfl hcc) ?_;refine jD (DN (Nu rfl rfl) Zi) ?_;refine jG ?_;refine C4 ?_;refine jG ?_;refine Ai.drawT [] (m:=9) Zk rfl ?_;intro aj ac;refine⟨fun w'=>True,?_⟩;refine RT.takeP 0 rfl Zk (.inr trivial) (fun _=>(JH rfl)) ?_;refine RT.takeP 1 rfl Zk (.inr trivial) (fun _=>(DK rfl)) ?_;refine RT.takeP 2 rfl Zk (.inr trivial) (fun _=>(Az (c:=((m+1:Nat):Int)) (Au rfl rfl Zo Zo) rfl)) ?_;refine RT.takeP 3 rfl Zk (.inr trivial) (fun _=>(Jk (i:=m+1) underlying9 rfl rfl (by simp only[show(⟨#[45,95,46]⟩:ByteArray).size=3 from rfl];omega))) ?_;refine RT.takeP 4 rfl Zk (.inr trivial) (fun _=>(JH rfl)) ?_;refine RT.takeP 5 rfl Zk (.inr trivial) (fun _=>(DK rfl)) ?_;refine RT.takeP 6 rfl Zk (.inr trivial) (fun _=>(IJ (i:=m) (c:=c) underlying9 rfl rfl hcc)) ?_;refine RT.st 7 rfl Zk rfl<|jC (JW (Any.strings_IndexByte idxBL ((⟨#[45,95,46]⟩:ByteArray).extract (m+1) (⟨#[45,95,46]⟩:ByteArray).size) (c.toNat:Int) _)) ?_;rintro _ _ ⟨rfl,rfl⟩;refine⟨.inr trivial,?_⟩;refine RT.takeP 8 rfl Zk (.inr trivial) (fun _=>(E0 rfl)) ?_;refine RT.done Zk ?_;refine FW ?_;refine jV (DN (FZ rfl rfl) (by rw[UX hm1 Zo hc8];decide)) ?_;refine jG ?_;refine C4 ?_;refine jG ?_;refine jJ func238 ?_;replace K0:=(K0.ext ab).ext ac;exact⟨_,rfl,_,rfl,by omega,K0⟩
    ·intro hc26
     refine jG ?_;refine jJ func238 ?_;exact⟨_,rfl,_,rfl,by omega,K0⟩
theorem SE (r:Int)(w:World)(h0:0<=r)(h1:r<=1114111):
  Calls prog 199 #[.string (⟨#[45,95,46]⟩:ByteArray),.int .i32 r] w (AN (fun v w'=>v= .bool (decide (r=45∨r=95∨r=46))∧Ap w w')):=by
 refine Ac (n:=9) func199 rfl rfl rfl ?_;refine jG ?_;refine jR<|jC (U0 r _ h0 h1) ?_;rintro _ a1 ⟨q,rfl,hq,a0⟩;have K0:=(a0:Ap w _);refine jG ?_;refine jJ func199 ?_;exact⟨_,rfl,congrArg Value.bool (by rw[decide_eq_decide];exact hq),K0⟩
theorem YE (x:Nat)(w:World)(hx:x<=1114111):
  Calls prog 198 #[.int .i32 ((x:Nat):Int)] w (AN (fun v w'=>v= .bool (JG x)∧Ap w w')):=by
 refine Ac (n:=30) func198 rfl rfl rfl ?_;refine jG ?_;refine jV (Be rfl rfl rfl) ?_;refine jG ?_;refine jW ?_ (hx:=by exact fun hg=>(Tv hg rfl rfl rfl));refine jV (D8 rfl rfl rfl) ?_;refine jG ?_;refine jW ?_ (hx:=by exact fun hg=>(Tv hg rfl rfl rfl));refine jV (D8 rfl rfl rfl) ?_;refine jG ?_;refine RL.gcall (vals:=[.string (⟨#[45,95,46]⟩:ByteArray),.int .i32 ((x:Nat):Int)]) (BZ rfl rfl rfl rfl) en199.h (fun hg=>(CR rfl (CR (BR hg) Hw))) (fun hg=>(SE ((x:Nat):Int) _ Zo Zo)) ?_;intro a1 a0;have K0:=(a0:Ap w _);refine jV (D8 rfl rfl rfl) ?_;refine jG ?_;refine jJ func198 ?_;exact⟨_,rfl,congrArg Value.bool (by unfold JG;rw[AaC];simp;omega),K0⟩
theorem U1 (s:ByteArray)(w:World):Calls prog 239 #[.string s,.func (.func 198) #[] #[],.bool true] w (AN fun v w'=>v= .int .i64 (Lib.idxFunc JG true s)∧Ap w w'):=
 (Any.strings_indexFunc_grows idxFL 198 #[] (Du func198 rfl Zk) JG true s w (fun W x hx _=>(YE x W hx).mono fun e w' ⟨v,h1,h2,h3⟩=>⟨by rw[h1,h2],h3.below⟩)).mono fun e w' ⟨h1,h2⟩=>⟨_,h1,rfl,UZ h2⟩
theorem SF (s:ByteArray)(w:World):
  Calls prog 200 #[.string s,.func (.func 198) #[] #[]] w (AN (fun v w'=>v= .int .i64 (Lib.idxFunc JG true s)∧Ap w w')):=by
 refine Ac (n:=8) func200 rfl rfl rfl ?_;refine jG ?_;refine jR<|jC (U1 s _) ?_;rintro _ a1 ⟨rfl,a0⟩;have K0:=(a0:Ap w _);refine jG ?_;refine jJ func200 ?_;exact⟨_,rfl,rfl,K0⟩
theorem bd (s:ByteArray)(w:World):
  Calls prog 142 #[.string s] w (AN (fun v w'=>v= .bool (AP s)∧Ap w w')):=by
 refine Ac (n:=17) func142 rfl rfl rfl ?_;refine jG ?_;refine jV (Qy rfl rfl) ?_;refine jG ?_;refine jW ?_ (hx:=by exact fun hg=>(DC underlying9 (BR hg)));refine jG ?_;refine jV (Be rfl rfl rfl) ?_;refine jG ?_;refine RL.gcall (vals:=[.string s,.func (.func 198) #[] #[]]) (BL rfl rfl rfl rfl) en200.h (fun hg=>(CR (BR hg) (CR (BR hg) Hw))) (fun hg=>(SF s _)) ?_;intro a1 a0;have K0:=(a0:Ap w _);refine jG ?_;refine jV (Be rfl rfl rfl) ?_;refine jG ?_;refine jJ func142 ?_;exact⟨_,rfl,congrArg Value.bool (WM s),K0⟩
end
section
theorem cmpB_lt : ∀ a b : List UInt8, Lib.compareBytes a b < 0 ↔ a < b
  | [], [] => by simp [Lib.compareBytes]
  | [], _ :: _ => by simp [Lib.compareBytes]
  | _ :: _, [] => by simp [Lib.compareBytes]
  | a :: r, b :: s => by
    rw [Lib.compareBytes, List.cons_lt_cons_iff, <- cmpB_lt r s]
    split
    · rename_i h; simp [h]
    · rename_i h
      split
      · rename_i h2
        simp only [h, false_or]
        constructor
        · intro h3; omega
        · rintro ⟨e, -⟩; subst e; exact absurd h2 h
      · rename_i h2
        have e : a = b := UInt8.toNat_inj.1 (by rw [UInt8.lt_iff_toNat_lt] at h h2; omega)
        simp [e]
theorem cmpB_eq : ∀ a b : List UInt8, Lib.compareBytes a b = 0 ↔ a = b
  | [], [] => by simp [Lib.compareBytes]
  | [], _ :: _ => by simp [Lib.compareBytes]
  | _ :: _, [] => by simp [Lib.compareBytes]
  | a :: r, b :: s => by
    rw [Lib.compareBytes]
    split
    · rename_i h
      constructor
      · intro h2; omega
      · intro e; cases e; exact absurd h (by rw [UInt8.lt_iff_toNat_lt]; omega)
    · rename_i h
      split
      · rename_i h2
        constructor
        · intro h2; omega
        · intro e; cases e; exact absurd h2 h
      · rename_i h2
        have e : a = b := UInt8.toNat_inj.1 (by rw [UInt8.lt_iff_toNat_lt] at h h2; omega)
        rw [cmpB_eq r s]; simp [e]
theorem K3 {a b:ByteArray}:a.data.toList=b.data.toList↔a=b:=by
 constructor
 ·intro h;cases a;cases b;simp only[ByteArray.mk.injEq];exact Array.toList_inj.1 h
 ·rintro rfl;rfl
theorem Rf (a:List UInt8):¬a<a:=fun h=>by
 have h1:=(cmpB_lt a a).2 h
 have h2:=(cmpB_eq a a).2 rfl
 omega
theorem ltL_trans : ∀ {a b c : List UInt8}, a < b -> b < c -> a < c
  | _, _, [], _, h => absurd h (List.not_lt_nil _)
  | _, [], _ :: _, h, _ => absurd h (List.not_lt_nil _)
  | [], _ :: _, _ :: _, _, _ => List.nil_lt_cons _ _
  | a :: r, b :: s, c :: t, h1, h2 => by
    rw [List.cons_lt_cons_iff] at *
    simp only [UInt8.lt_iff_toNat_lt] at *
    rcases h1 with h1 | ⟨rfl, h1⟩ <;> rcases h2 with h2 | ⟨rfl, h2⟩
    · exact .inl Zo
    · exact .inl h1
    · exact .inl h2
    · exact .inr ⟨rfl, ltL_trans h1 h2⟩
theorem Rg {a b : List UInt8} (h : ¬ a < b) (h2 : ¬ b < a) : a = b := by
  induction a generalizing b with
  | nil => cases b with
    | nil => rfl
    | cons => exact absurd (List.nil_lt_cons _ _) h
  | cons x a ih => cases b with
    | nil => exact absurd (List.nil_lt_cons _ _) h2
    | cons y b =>
      rw [List.cons_lt_cons_iff] at h h2
      simp only [UInt8.lt_iff_toNat_lt] at h h2
      have e : x = y := UInt8.toNat_inj.1 Zo
      subst e
      rw [ih (fun h3 => h (.inr ⟨rfl, h3⟩)) (fun h3 => h2 (.inr ⟨rfl, h3⟩))]
def D4 (a b:Aj):Prop:=a.item.data.toList<b.item.data.toList∨a.item=b.item∧Cp a.dot b.dot
instance (a b:Aj):Decidable (D4 a b):=by unfold D4;infer_instance
def Cj (a b:Aj):Int:=Lib.compareBytes a.item.data.toList b.item.data.toList
def Iw (a b:Aj):Int:=if Cj a b=0 then Bz a.dot b.dot else Cj a b
theorem EV {a b:Aj}:Iw a b<0↔D4 a b:=by
 unfold Iw D4
 rw[<-cmpB_lt]
 have e:=(cmpB_eq a.item.data.toList b.item.data.toList).trans K3
 unfold Cj
 split
 ·rename_i h;rw[EB];simp[e.1 h,(cmpB_eq b.item.data.toList b.item.data.toList).2 rfl]
 ·rename_i h;simp only[show¬a.item=b.item from fun e2=>h (e.2 e2),false_and,or_false]
theorem WN {a b:Aj}:0<=Iw a b↔¬D4 a b:=by rw[<-EV];omega
theorem Ng (a:Aj):¬D4 a a:=by
 rintro(h|⟨-,h⟩)
 ·exact Rf _ h
 ·exact M1 h
theorem I7 (a b c:Aj)(h1:D4 a b)(h2:D4 b c):D4 a c:=by
 rcases h1 with h1|⟨e1,h1⟩<;>rcases h2 with h2|⟨e2,h2⟩
 ·exact .inl (ltL_trans h1 h2)
 ·exact .inl (e2▸h1)
 ·exact .inl (e1▸h2)
 ·exact .inr ⟨e1.trans e2,E2 h1 h2⟩
theorem Rh {a b:Aj}(h:¬D4 a b)(h2:¬D4 b a):a.item=b.item∧a.dot=b.dot:=by
 have e:a.item=b.item:=K3.1 (Rg (fun h3=>h (.inl h3)) (fun h3=>h2 (.inl h3)))
 exact⟨e,JU (fun h3=>h (.inr ⟨e,h3⟩)) (fun h3=>h2 (.inr ⟨e.symm,h3⟩))⟩
def itemsN :List Aj->Nat
 |[]=>0
 |[_]=>1
 |x::y::t=>(if x.item=y.item then 0 else 1)+itemsN (y::t)
theorem itemsN_le : ∀ l : List Aj, itemsN l <= l.length
  | [] => Aac _
  | [_] => Aac _
  | x :: y :: t => by
    have := itemsN_le (y :: t)
    rw [itemsN]
    split <;> simp only [Aaj] at * <;> omega
theorem itemsN_run : ∀ (k : Nat) (x : Aj) (t : List Aj), (∀ j y, j < k -> (x :: t)[j]? = some y -> y.item = x.item) -> 1 <= k -> k <= t.length + 1 -> (∀ y, (x :: t)[k]? = some y -> y.item ≠ x.item) -> itemsN (x :: t) = 1 + itemsN ((x :: t).drop k)
  | 0, _, _, _, h, _, _ => absurd h Zo
  | 1, x, [], _, _, _, _ => by simp [itemsN]
  | 1, x, y :: t, _, _, _, h => by
    have := h y rfl
    rw [itemsN, if_neg (fun e => this e.symm)]; rfl
  | k + 2, x, [], _, _, h, _ => absurd h Zs
  | k + 2, x, y :: t, h, _, hl, hn => by
    have e : y.item = x.item := h 1 y Zo rfl
    rw [itemsN, if_pos e.symm, Aaq, AbP]
    exact itemsN_run (k + 1) y t (fun j z hj hz => by rw [e]; exact h (j + 1) z Zo (by simpa using hz)) Zo (by simp only [Aaj] at hl; omega) (fun z hz => by rw [e]; exact hn z (by simpa using hz))
noncomputable def BW (ms:List Ab)(cl:List Ag)(pre:List Aj)(x:Aj):Int:=
 open Classical in
 if AP x.item=false then 6 else if ¬(1<=x.qty∧x.qty<=1000000)then 52 else if ¬A4 x.price then 53
 else if ¬Cb ms cl x.dot∨(∃y,pre.getLast? =some y∧¬D4 y x)∨(∃y∈pre,y.dot=x.dot)then 50 else 0
noncomputable def AO (ms:List Ab)(cl:List Ag)(es:List Aj):Nat->Int
 |0=>0
 |n+1=>if AO ms cl es n≠0 then AO ms cl es n else match es[n]? with|some x=>BW ms cl (es.take n) x|none=>0
noncomputable def Br (ms:List Ab)(cl:List Ag)(es:List Aj):Int:=
 if BK ms cl=false then 30 else if 64<es.length then 51 else if AO ms cl es es.length≠0 then AO ms cl es es.length else if 32<itemsN es then 51 else 0
section
variable {ms :List Ab}{cl:List Ag}{es pre:List Aj}{x y:Aj}{i:Nat}
theorem Ml (h:AP x.item=false):BW ms cl pre x=6:=by rw[BW,if_pos h]
theorem OC (h1:AP x.item=true)(h:¬(1<=x.qty∧x.qty<=1000000)):BW ms cl pre x=52:=by rw[BW,if_neg (by simp[h1]),if_pos h]
theorem K8 (h1:AP x.item=true)(h2:1<=x.qty∧x.qty<=1000000)(h:¬A4 x.price):BW ms cl pre x=53:=by rw[BW,if_neg (by simp[h1]),if_neg (not_not_intro h2),if_pos h]
theorem Gk (h1:AP x.item=true)(h2:1<=x.qty∧x.qty<=1000000)(h3:A4 x.price)(h:¬Cb ms cl x.dot∨(∃y,pre.getLast? =some y∧¬D4 y x)∨(∃y∈pre,y.dot=x.dot)):BW ms cl pre x=50:=by
 rw[BW,if_neg (by simp[h1]),if_neg (not_not_intro h2),if_neg (not_not_intro h3),if_pos h]
theorem Nh (h1:AP x.item=true)(h2:1<=x.qty∧x.qty<=1000000)(h3:A4 x.price)(h:Cb ms cl x.dot)(h4:∀y,pre.getLast? =some y->D4 y x)(h5:∀y∈pre,y.dot≠x.dot):BW ms cl pre x=0:=by
 rw[BW,if_neg (by simp[h1]),if_neg (not_not_intro h2),if_neg (not_not_intro h3),if_neg]
 rintro(h6|⟨y,hy,h6⟩|⟨y,hy,h6⟩)
 ·exact h6 h
 ·exact h6 (h4 y hy)
 ·exact h5 y hy h6
structure fQ (ms:List Ab)(cl:List Ag)(pre:List Aj)(x:Aj):Prop where
 name:AP x.item=true
 qty:1<=x.qty∧x.qty<=1000000
 price:A4 x.price
 cov:Cb ms cl x.dot
 last:∀y,pre.getLast? =some y->D4 y x
 dots:∀y∈pre,y.dot≠x.dot
theorem errE_iff :BW ms cl pre x=0↔fQ ms cl pre x:=by
 constructor
 ·intro h
  have h1:AP x.item=true:=Decidable.byContradiction fun h1=>by rw[Ml (by simpa using h1)]at h;omega
  have h2:1<=x.qty∧x.qty<=1000000:=Decidable.byContradiction fun h2=>by rw[OC h1 h2]at h;omega
  have h3:A4 x.price:=Decidable.byContradiction fun h3=>by rw[K8 h1 h2 h3]at h;omega
  have h4:¬(¬Cb ms cl x.dot∨(∃y,pre.getLast? =some y∧¬D4 y x)∨(∃y∈pre,y.dot=x.dot)):=fun h4=>by rw[Gk h1 h2 h3 h4]at h;omega
  exact⟨h1,h2,h3,Decidable.byContradiction fun h5=>h4 (.inl h5),fun y hy=>Decidable.byContradiction fun h5=>h4 (.inr (.inl ⟨y,hy,h5⟩)),fun y hy e=>h4 (.inr (.inr ⟨y,hy,e⟩))⟩
 ·intro h;exact Nh h.name h.qty h.price h.cov h.last h.dots
theorem GC (n:Nat):AO ms cl es (n+1)=if AO ms cl es n≠0 then AO ms cl es n else match es[n]? with|some x=>BW ms cl (es.take n) x|none=>0:=rfl
theorem OD {n m : Nat} (h : AO ms cl es n ≠ 0) (hm : n <= m) : AO ms cl es m = AO ms cl es n := by
  induction m with
  | zero => have : n = 0 := by omega
            subst this; rfl
  | succ m ih =>
    by_cases e : n = m + 1
    · subst e; rfl
    · have := ih Zo
      rw [GC, this, if_pos h]
theorem Mm (h0:AO ms cl es i=0)(hx:es[i]? =some x)(h:BW ms cl (es.take i) x≠0):AO ms cl es es.length=BW ms cl (es.take i) x:=by
 have hi:=(List.getElem?_eq_some_iff.1 hx).1
 have e:AO ms cl es (i+1)=BW ms cl (es.take i) x:=by rw[GC,if_neg (not_not_intro h0),hx]
 rw[OD (n:=i+1) (by rw[e];exact h) hi,e]
theorem Jt (h0:AO ms cl es i=0)(hx:es[i]? =some x)(h:BW ms cl (es.take i) x=0):AO ms cl es (i+1)=0:=by rw[GC,if_neg (not_not_intro h0),hx];exact h
theorem firstE_all : ∀ {n : Nat}, AO ms cl es n = 0 -> ∀ i x, i < n -> es[i]? = some x -> fQ ms cl (es.take i) x
  | 0, _, _, _, h, _ => absurd h Zo
  | n + 1, h, i, x, hi, hx => by
    rw [GC] at h
    by_cases h0 : AO ms cl es n = 0
    · rw [if_neg (not_not_intro h0)] at h
      by_cases e : i = n
      · subst e; rw [hx] at h; exact errE_iff.1 h
      · exact firstE_all h0 i x Zo hx
    · rw [if_pos h0] at h; exact absurd h h0
theorem OE (h:BK ms cl=false):Br ms cl es=30:=by rw[Br,if_pos h]
theorem Mn (h:BK ms cl=true)(h2:64<es.length):Br ms cl es=51:=by rw[Br,if_neg (by simp[h]),if_pos h2]
theorem WO (h:BK ms cl=true)(h2:es.length<=64)(h0:AO ms cl es i=0)(hx:es[i]? =some x)(h3:BW ms cl (es.take i) x≠0):Br ms cl es=BW ms cl (es.take i) x:=by
 rw[Br,if_neg (by simp[h]),if_neg Zo,if_pos (by rw[Mm h0 hx h3];exact h3),Mm h0 hx h3]
theorem Mo (h:BK ms cl=true)(h2:es.length<=64)(h0:AO ms cl es es.length=0)(h3:32<itemsN es):Br ms cl es=51:=by rw[Br,if_neg (by simp[h]),if_neg Zo,if_neg (not_not_intro h0),if_pos h3]
theorem Ri (h:BK ms cl=true)(h2:es.length<=64)(h0:AO ms cl es es.length=0)(h3:itemsN es<=32):Br ms cl es=0:=by rw[Br,if_neg (by simp[h]),if_neg Zo,if_neg (not_not_intro h0),if_neg Zo]
structure GD (ms:List Ab)(cl:List Ag)(es:List Aj):Prop where
 ctx:Ew ms cl
 len:es.length<=64
 ent:∀i x,es[i]? =some x->fQ ms cl (es.take i) x
 items:itemsN es<=32
theorem Fq (h:Br ms cl es=0):GD ms cl es:=by
 have h1:BK ms cl=true:=by
  cases hc:BK ms cl with
  |true=>rfl
  |false=>rw[OE hc]at h;omega
 have h2:es.length<=64:=AbV fun h2=>by rw[Mn h1 h2]at h;omega
 have h3:AO ms cl es es.length=0:=Decidable.byContradiction fun h3=>by
  rw[Br,if_neg (by simp[h1]),if_neg Zo,if_pos h3]at h;exact h3 h
 have h4:itemsN es<=32:=AbV fun h4=>by rw[Mo h1 h2 h3 h4]at h;omega
 exact⟨Fj.1 h1,h2,fun i x hx=>firstE_all h3 i x (List.getElem?_eq_some_iff.1 hx).1 hx,h4⟩
theorem Mp {es:List Aj}(hi:0<i)(h:es[i-1]? =some y):(es.take i).getLast? =some y:=by
 have hl:=(List.getElem?_eq_some_iff.1 h).1
 rw[Acg,List.length_take,Abv Zo,Acj Zo];exact h
theorem FU {es:List Aj}(hl:i<=es.length)(h:(es.take i).getLast? =some y):0<i∧es[i-1]? =some y:=by
 rw[Acg,List.length_take,Abv Zo]at h
 by_cases h0:0<i
 ·rw[Acj Zo]at h;exact⟨h0,h⟩
 ·have:i=0:=by omega
  subst this;simp at h
theorem GD.sorted (h:GD ms cl es):es.Pairwise D4:=Ef (fun a b c=>I7 a b c) fun i x y hx hy=>(h.ent (i+1) y hy).last x (Mp Zo hx)
theorem GD.mem (h:GD ms cl es)(hx:x∈es):AP x.item=true∧(1<=x.qty∧x.qty<=1000000)∧A4 x.price∧Cb ms cl x.dot:=by
 obtain⟨i,hi,rfl⟩:=AaG hx
 have h:=h.ent i _ (List.getElem?_eq_getElem hi)
 exact⟨h.name,h.qty,h.price,h.cov⟩
theorem GD.dots (h:GD ms cl es){x y:Aj}(hx:x∈es)(hy:y∈es)(e:x.dot=y.dot):x=y:=by
 obtain⟨i,hi,rfl⟩:=AaG hx
 obtain⟨j,hj,rfl⟩:=AaG hy
 rcases Nat.lt_trichotomy i j with hlt|rfl|hlt
 ·exact absurd e ((h.ent j _ (List.getElem?_eq_getElem hj)).dots _ (List.mem_take_iff_getElem.2 ⟨i,by omega,rfl⟩))
 ·rfl
 ·exact absurd e.symm ((h.ent i _ (List.getElem?_eq_getElem hi)).dots _ (List.mem_take_iff_getElem.2 ⟨j,by omega,rfl⟩))
end
def Gr (w w':World):Prop:=∃(q:Nat) (os':Array Obj),w'=Go.Sort.grow (w.drewN q) os'
theorem Gr.refl (w:World):Gr w w:=⟨0,#[],by simp[Go.Sort.grow,World.drewN]⟩
theorem Gr.push (w:World)(o:Obj):Gr w {w with heap:=w.heap.push o}:=⟨0,#[o],by simp[Go.Sort.grow,World.drewN]⟩
theorem Gr.trans {a b c:World}(h:Gr a b)(k:Gr b c):Gr a c:=by
 obtain⟨q,os',rfl⟩:=h
 obtain⟨q2,os2,rfl⟩:=k
 exact⟨q+q2,os'++os2,by simp[Go.Sort.grow,World.drewN,Abr]⟩
section
variable {α :Type}[Enc α]{P:Program}{f:FuncId}{n:FN}{R:Ending->World->Prop}{k:List Item}{ρ:A8}{w:World}{dst:Option Nat}{ty:TypeId}{pos:String}{af:Array Edge}{K:A8->World->Prop}
theorem AA.boxG {e:TypeId}{x:Operand}{v:Value}(hx:rd n ρ x=v)
  (h:∀b w',w.heap.size<=b->AB w' b v.cells.toList e->Ap w w'->Gr w w'->K (Bc ρ dst (jp b)) w'):
  AA P f n R k ⟨dst,.box e x,ty,pos,af,none⟩ ρ w K:=
 AA.val (Xy hx) (h _ _ (Aac _) (F0 w _ e) (Ap.push w _) (Gr.push w _))
theorem AA.buildSliceG {t e:TypeId}{bytes len:Nat}{z:Value}{agg:Bool}{parts:List (Nat×Operand)}(ys:List α)(ht:P.underlying t=some (.slice e))(he:Ty P e (Enc.size α) bytes z agg)
  (hlen:len=ys.length) (hp:(parts.map fun(i,x)=>(i,rd n ρ x))=((ys.map Enc.val).zipIdx 0).map fun x=>(x.2,x.1)) (hl:ys.length*Enc.size α<=16777216)
  (h:∀b w',w.heap.size<=b->Af w' e (some ⟨b,0,none⟩) ys.length ys->Ap w w'->Gr w w'->K (Bc ρ dst (.slice (some ⟨b,0,none⟩) ys.length ys.length)) w'):
  AA P f n R k ⟨dst,.buildSlice t len parts.toArray,ty,pos,af,none⟩ ρ w K:=by
 subst hlen
 have hpos:=Enc.pos (α:=α)
 have hm:ys.length<=ys.length*Enc.size α:=Nat.le_mul_of_pos_right _ hpos
 have hr:=run_buildSlice (P:=P) (w:=w) ht he ys (parts.toArray.map fun(i,x)=>(i,rd n ρ x)) (by simpa using hp) hl
 refine AA.val (v:= .slice (some ⟨w.heap.size,0,none⟩) ys.length ys.length) (w':={w with heap:=w.heap.push (.cells (AM ys).toArray e)}) ?_ (h _ _ (Aac _) (Kb w e ys (by simp only[maxLen];omega)) (Ap.push w _) (Gr.push w _))
 simp only[execOp,Sem.run_bind,hr,Result.andThen_ok,Sem.run_pure]
end
attribute [local irreducible] AC DQ Cp BH Bz B4 Cb D4 Cj itemsN BW AO Br BK Gr X
theorem XO (a b:Aj)(w:World)(ha:DQ a.dot)(hb:DQ b.dot):
  Calls prog 145 #[.agg #[.string a.item,.int .i64 a.dot.node,.int .i64 a.dot.life,.int .i64 a.dot.count,.int .i64 a.qty,.int .u64 a.price],.agg #[.string b.item,.int .i64 b.dot.node,.int .i64 b.dot.life,.int .i64 b.dot.count,.int .i64 b.qty,.int .u64 b.price]] w (AN (fun v w'=>v= .int .i64 (Iw a b)∧Ap w w'∧Gr w w')):=by
 unfold DQ at ha hb;obtain⟨ha1,ha2,ha3⟩:=ha;obtain⟨hb1,hb2,hb3⟩:=hb;have G0:=Gr.refl w;refine Ac (n:=45) func145 rfl rfl rfl ?_;refine jG ?_;refine jR<|AA.boxG (v:= .agg #[.string a.item,.int .i64 a.dot.node,.int .i64 a.dot.life,.int .i64 a.dot.count,.int .i64 a.qty,.int .u64 a.price]) rfl ?_;intro a3 a7 a4 a1 a8 hG_;replace a1:AB a7 a3 [.string a.item,.int .i64 a.dot.node,.int .i64 a.dot.life,.int .i64 a.dot.count,.int .i64 a.qty,.int .u64 a.price] 76:=a1;have:w.heap.size<=a3:=a4;clear a4;have K0:=(a8:Ap w _);replace G0:=Gr.trans G0 hG_;clear hG_;refine jR<|AA.boxG (v:= .agg #[.string b.item,.int .i64 b.dot.node,.int .i64 b.dot.life,.int .i64 b.dot.count,.int .i64 b.qty,.int .u64 b.price]) rfl ?_;intro a9 aa a2 a5 a6 hG_;replace a5:AB aa a9 [.string b.item,.int .i64 b.dot.node,.int .i64 b.dot.life,.int .i64 b.dot.count,.int .i64 b.qty,.int .u64 b.price] 76:=a5;have aH:=Ak a1.lt a2;have:=Aaa K0.size a2;clear a2;replace G0:=Gr.trans G0 hG_;clear hG_;replace a1:=a1.ext a6;refine jG ?_;refine jR<|jC (JW (Any.strings_Compare cmpSL a.item b.item _)) ?_;rintro _ _ ⟨rfl,rfl⟩;refine jG ?_;refine jV (BT rfl rfl Zo Zo) ?_;refine jG ?_;refine jV (BT rfl rfl Zo Zo) ?_;refine jG ?_;refine jV (BT rfl rfl Zo Zo) ?_;refine jR<|AA.buildSliceG ([(a.dot.node)-(b.dot.node),(a.dot.life)-(b.dot.life),(a.dot.count)-(b.dot.count)]:List Int) underlying185 ty3 rfl rfl Ze ?_;intro aI aJ ab a0 ac hG_;clear ab;replace G0:=Gr.trans G0 hG_;clear hG_;refine jV (Az (c:=3) (Cw underlying185 rfl) rfl) ?_;refine jG ?_;refine Ai.unloop ?_;refine jG ?_;refine C4 ?_;refine El ?_;obtain⟨aK,aL,ad,ae,af,ag⟩:=a0.sl.el (i:=0) Zs;obtain rfl:(a.dot.node)-(b.dot.node)=ad:=Option.some.inj ae;refine jV (AS underlying185 ty3 rfl rfl af Zs) ?_;refine jV (BQ (v:= .int .i64 ((a.dot.node)-(b.dot.node))) (y:=(a.dot.node)-(b.dot.node)) ty3 rfl ag rfl) ?_;refine jG ?_;replace K0:=(K0.ext a6).ext ac;refine jF ?_ ?_
 ·intro hc41
  refine jG ?_;refine jV (Az (c:=1) (Au rfl rfl Zd Zd) Zd) ?_;refine jG ?_;refine Ai.inLoop ?_;refine jG ?_;refine C4 ?_;refine El ?_;obtain⟨aM,aN,ah,ai,aj,ak⟩:=a0.sl.el (i:=1) Zs;obtain rfl:(a.dot.life)-(b.dot.life)=ah:=Option.some.inj ai;refine jV (AS underlying185 ty3 rfl rfl aj Zs) ?_;refine jV (BQ (v:= .int .i64 ((a.dot.life)-(b.dot.life))) (y:=(a.dot.life)-(b.dot.life)) ty3 rfl ak rfl) ?_;refine jG ?_;refine jF ?_ ?_
  ·intro hc41
   refine jG ?_;refine jV (Az (c:=2) (Au rfl rfl Zd Zd) Zd) ?_;refine jG ?_;refine Ai.inLoop ?_;refine jG ?_;refine C4 ?_;refine El ?_;obtain⟨aO,aP,al,am,an,ao⟩:=a0.sl.el (i:=2) Zs;obtain rfl:(a.dot.count)-(b.dot.count)=al:=Option.some.inj am;refine jV (AS underlying185 ty3 rfl rfl an Zs) ?_;refine jV (BQ (v:= .int .i64 ((a.dot.count)-(b.dot.count))) (y:=(a.dot.count)-(b.dot.count)) ty3 rfl ao rfl) ?_;refine jG ?_;refine jF ?_ ?_
   ·intro hc41
    refine jG ?_;refine jV (Az (c:=3) (Au rfl rfl Zd Zd) Zd) ?_;refine jG ?_;refine Ai.inLoop ?_;refine jG ?_;refine Ai.condF rfl ?_;refine jG ?_;refine jJ func145 ?_;exact⟨_,rfl,by unfold Iw Cj Bz;(repeat' split)<;>first|rfl|omega,K0,G0⟩
   ·intro hc41
    refine jG ?_;refine jV (Az (c:=3) (Au rfl rfl Zd Zd) Zd) ?_;refine jG ?_;refine Ai.inLoop ?_;refine jG ?_;refine Ai.condF rfl ?_;refine jG ?_;refine jJ func145 ?_;exact⟨_,rfl,by unfold Iw Cj Bz;(repeat' split)<;>first|rfl|omega,K0,G0⟩
  ·intro hc41
   refine jG ?_;refine jV (Az (c:=2) (Au rfl rfl Zd Zd) Zd) ?_;refine jG ?_;refine Ai.inLoop ?_;refine jG ?_;refine C4 ?_;refine El ?_;obtain⟨aQ,aR,ap,aq,ar,au⟩:=a0.sl.el (i:=2) Zs;obtain rfl:(a.dot.count)-(b.dot.count)=ap:=Option.some.inj aq;refine jV (AS underlying185 ty3 rfl rfl ar Zs) ?_;refine jV (BQ (v:= .int .i64 ((a.dot.count)-(b.dot.count))) (y:=(a.dot.count)-(b.dot.count)) ty3 rfl au rfl) ?_;refine jG ?_;refine jF ?_ ?_
   ·intro hc41
    refine jG ?_;refine jV (Az (c:=3) (Au rfl rfl Zd Zd) Zd) ?_;refine jG ?_;refine Ai.inLoop ?_;refine jG ?_;refine Ai.condF rfl ?_;refine jG ?_;refine jJ func145 ?_;exact⟨_,rfl,by unfold Iw Cj Bz;(repeat' split)<;>first|rfl|omega,K0,G0⟩
   ·intro hc41
    refine jG ?_;refine jV (Az (c:=3) (Au rfl rfl Zd Zd) Zd) ?_;refine jG ?_;refine Ai.inLoop ?_;refine jG ?_;refine Ai.condF rfl ?_;refine jG ?_;refine jJ func145 ?_;exact⟨_,rfl,by unfold Iw Cj Bz;(repeat' split)<;>first|rfl|omega,K0,G0⟩
 ·intro hc41
  refine jG ?_;refine jV (Az (c:=1) (Au rfl rfl Zd Zd) Zd) ?_;refine jG ?_;refine Ai.inLoop ?_;refine jG ?_;refine C4 ?_;refine El ?_;obtain⟨aS,aT,av,aw,ax,ay⟩:=a0.sl.el (i:=1) Zs;obtain rfl:(a.dot.life)-(b.dot.life)=av:=Option.some.inj aw;refine jV (AS underlying185 ty3 rfl rfl ax Zs) ?_;refine jV (BQ (v:= .int .i64 ((a.dot.life)-(b.dot.life))) (y:=(a.dot.life)-(b.dot.life)) ty3 rfl ay rfl) ?_;refine jG ?_;refine jF ?_ ?_
  ·intro hc41
   refine jG ?_;refine jV (Az (c:=2) (Au rfl rfl Zd Zd) Zd) ?_;refine jG ?_;refine Ai.inLoop ?_;refine jG ?_;refine C4 ?_;refine El ?_;obtain⟨aU,aV,az,aA,aB,aC⟩:=a0.sl.el (i:=2) Zs;obtain rfl:(a.dot.count)-(b.dot.count)=az:=Option.some.inj aA;refine jV (AS underlying185 ty3 rfl rfl aB Zs) ?_;refine jV (BQ (v:= .int .i64 ((a.dot.count)-(b.dot.count))) (y:=(a.dot.count)-(b.dot.count)) ty3 rfl aC rfl) ?_;refine jG ?_;refine jF ?_ ?_
   ·intro hc41
    refine jG ?_;refine jV (Az (c:=3) (Au rfl rfl Zd Zd) Zd) ?_;refine jG ?_;refine Ai.inLoop ?_;refine jG ?_;refine Ai.condF rfl ?_;refine jG ?_;refine jJ func145 ?_;exact⟨_,rfl,by unfold Iw Cj Bz;(repeat' split)<;>first|rfl|omega,K0,G0⟩
   ·intro hc41
    refine jG ?_;refine jV (Az (c:=3) (Au rfl rfl Zd Zd) Zd) ?_;refine jG ?_;refine Ai.inLoop ?_;refine jG ?_;refine Ai.condF rfl ?_;refine jG ?_;refine jJ func145 ?_;exact⟨_,rfl,by unfold Iw Cj Bz;(repeat' split)<;>first|rfl|omega,K0,G0⟩
  ·intro hc41
   refine jG ?_;refine jV (Az (c:=2) (Au rfl rfl Zd Zd) Zd) ?_;refine jG ?_;refine Ai.inLoop ?_;refine jG ?_;refine C4 ?_;refine El ?_;obtain⟨aW,aX,aD,aE,aF,aG⟩:=a0.sl.el (i:=2) Zs;obtain rfl:(a.dot.count)-(b.dot.count)=aD:=Option.some.inj aE;refine jV (AS underlying185 ty3 rfl rfl aF Zs) ?_;refine jV (BQ (v:= .int .i64 ((a.dot.count)-(b.dot.count))) (y:=(a.dot.count)-(b.dot.count)) ty3 rfl aG rfl) ?_;refine jG ?_;refine jF ?_ ?_
   ·intro hc41
    refine jG ?_;refine jV (Az (c:=3) (Au rfl rfl Zd Zd) Zd) ?_;refine jG ?_;refine Ai.inLoop ?_;refine jG ?_;refine Ai.condF rfl ?_;refine jG ?_;refine jJ func145 ?_;exact⟨_,rfl,by unfold Iw Cj Bz;(repeat' split)<;>first|rfl|omega,K0,G0⟩
   ·intro hc41
    refine jG ?_;refine jV (Az (c:=3) (Au rfl rfl Zd Zd) Zd) ?_;refine jG ?_;refine Ai.inLoop ?_;refine jG ?_;refine Ai.condF rfl ?_;refine jG ?_;refine jJ func145 ?_;exact⟨_,rfl,by unfold Iw Cj Bz;(repeat' split)<;>first|rfl|omega,K0,G0⟩
theorem fR (a b:Aj)(w:World)(ha:DQ a.dot)(hb:DQ b.dot):Calls prog 145 #[.agg #[.string a.item,.int .i64 a.dot.node,.int .i64 a.dot.life,.int .i64 a.dot.count,.int .i64 a.qty,.int .u64 a.price],.agg #[.string b.item,.int .i64 b.dot.node,.int .i64 b.dot.life,.int .i64 b.dot.count,.int .i64 b.qty,.int .u64 b.price]] w (AN fun v w'=>v= .int .i64 (Iw a b)∧Ap w w'):=(XO a b w ha hb).mono fun e w' ⟨v,h1,h2,h3,_⟩=>⟨v,h1,h2,h3⟩
end
section
theorem Rj {l:List Aj}{x:Aj}{j:Nat}(hno:GL (fun y=>decide (y.dot=x.dot)) l j)(hj:l.length<=j):∀y∈l,y.dot≠x.dot:=fun y hy=>by
 obtain⟨q,hq,rfl⟩:=AaG hy
 exact of_decide_eq_false (hno q _ Zo (List.getElem?_eq_getElem hq))
theorem OF (ms:List Ab)(cl:List Ag)(es:List Aj):AO ms cl es 0=0:=rfl
theorem WP {es:List Aj}{i:Nat}{x y:Aj}(hi:i<=es.length)(hy:es[i-1]? =some y)(h:D4 y x):∀z,(es.take i).getLast? =some z->D4 z x:=fun z hz=>by
 have e:=(FU hi hz).2
 rw[hy]at e;cases e;exact h
theorem YF {es:List Aj}{i:Nat}{x:Aj}(hi:i<=es.length)(h:¬0<i):∀z,(es.take i).getLast? =some z->D4 z x:=fun z hz=>absurd (FU hi hz).1 h
def Fr (es:List Aj):Prop:=∀x∈es,(0<=x.price∧x.price<18446744073709551616)∧x.item.size<=4294967295
theorem WQ {α:Type}{l:List α}{i:Nat}(h:i<=l.length):(l.take i).length=i:=by rw[List.length_take];omega
attribute [local irreducible] AC DQ Cp BH Bz B4 Cb D4 Cj itemsN BW AO Br BK Gr AP A4 X
theorem YG (am:Option Addr)(ms:List Ab)(cm:Nat)(ac:Option Addr)(cl:List Ag)(cc:Nat)(ae:Option Addr)(es:List Aj)(ce:Nat)(i:Nat)(x0:Aj)(w:World)(hcap:es.length<=ce)(hs:Av w am ms)(ht:Av w ac cl)(hse:Av w ae es)(hl:ms.length<=4294967295)(hl2:cl.length<=4294967295)(hl3:es.length<=4294967295)(hcan:BK ms cl=true)(h0:AO ms cl es i=0)(hx0:es[i]? =some x0)(hp:0<=x0.price∧x0.price<18446744073709551616):
  Calls prog 80 #[.agg #[.slice ae es.length ce,.slice am ms.length cm,.slice ac cl.length cc],.int .i64 ((i:Nat):Int)] w (AN (fun v w'=>v= .int .i64 (BW ms cl (es.take i) x0)∧Ap w w')):=by
 have hil:=(List.getElem?_eq_some_iff.1 hx0).1;have hcx:=Fj.1 hcan;have htl:=WQ (AbE hil);refine Ac (n:=69) func80 rfl rfl rfl ?_;refine jG ?_;refine jR<|jB ?_;intro a8 aD ap a1 ay;have:w.heap.size<=a8:=ap;clear ap;have K0:=(ay:Ap w _);refine H7 ?_;obtain⟨aE,aF,x,hx,az,a4⟩:=hse.eo i;have hc_9_lt:=a4.lt;refine jV (AS underlying27 ty76 rfl rfl az Zl) ?_;replace a4:=a4.ext K0;refine jG ?_;refine jR<|jA ?_;intro a5 aG a6 a0 aq;have aH:=Ak a1.lt a6;have aI:=Ak a4.lt a6;have:=Aaa K0.size a6;clear a6;refine jR<|jS a0 ?_;intro aJ a0 ar;obtain rfl:x=x0:=by rw[hx0]at hx;exact(Option.some.inj hx).symm
 clear hx;refine jG ?_;refine jR<|jC (bd x.item _) ?_;rintro _ aK ⟨rfl,a9⟩;refine jG ?_;replace a1:=((a1.ext aq).kp ar).ext a9;replace K0:=((K0.ext aq).n1 ar).ext a9;replace a0:=a0.ext a9;refine jF ?_ ?_
 ·intro hc13
  refine jG ?_;refine jJ func80 ?_;exact⟨_,rfl,by rw[Ml hc13],K0⟩
 ·intro hc13
  refine jG ?_;refine jV (D8 rfl rfl rfl) ?_;refine jG ?_;refine jF ?_ ?_
  ·intro hc18
   refine jG ?_;refine jJ func80 ?_;exact⟨_,rfl,by rw[OC hc13 Zo],K0⟩
  ·intro hc18
   refine jG ?_;refine jR<|jC (YD x.price _ hp.1 hp.2) ?_;rintro _ aL ⟨rfl,aa⟩;refine jG ?_;replace a1:=a1.ext aa;replace a0:=a0.ext aa;replace K0:=K0.ext aa;refine jF ?_ ?_
   ·intro hc27
    refine jG ?_;refine jJ func80 ?_;exact⟨_,rfl,by rw[K8 hc13 Zo hc27],K0⟩
   ·intro hc27
    refine El ?_;by_cases hA:Cb ms cl x.dot
    ·by_cases hB:0<i
     ·refine Ai.drawS [] [0,1001,2,1003,2004,5,6,7,8,9,10,1011,12,13,14,1016,2015,2017,18,19,20,21] ?_
      intro aM ab;replace a1:=a1.ext ab;replace a0:=a0.ext ab;refine jM (jb a1 (jb a0 Jn)) ?_;refine jG ?_;replace K0:=K0.ext ab;refine jU rfl<|jC (JV am ms cm ac cl cc x.dot _ (hs.ext K0) (ht.ext K0) Zo Zo) ?_;rintro _ aN ⟨rfl,ad⟩;replace a1:=a1.ext ad;replace a0:=a0.ext ad;refine El ?_;refine jP ?_ (hx:=by exact fun _=>(D9 (Bn rfl) (by simp[hA])));refine Em ?_;refine jQ ?_ (hx:=by exact fun _ hg=>(DN (GR rfl rfl) Zi));refine jG ?_;refine jQ ?_ (hx:=by exact fun _ hg=>(BT rfl rfl Zo Zo));obtain⟨aO,aP,y,hy,aA,a7⟩:=hse.el (i:=(((i:Nat):Int)-1).toNat) Zl;have hc_32_lt:=a7.lt;replace K0:=K0.ext ad;refine jQ ?_ (hx:=by exact fun _ hg=>(HK underlying27 ty76 rfl rfl aA Zo Zl));refine jG ?_;replace a7:=a7.ext K0;refine jX rfl<|jO (BQ (v:= .agg #[.string y.item,.int .i64 y.dot.node,.int .i64 y.dot.life,.int .i64 y.dot.count,.int .i64 y.qty,.int .u64 y.price]) (y:=y) ty76 rfl a7 rfl) ?_;refine jG ?_;refine jX rfl<|jC (fR y x _ (hcx.cov (firstE_all h0 _ y Zo hy).cov).sm (hcx.cov hA).sm) ?_;rintro _ aQ ⟨rfl,af⟩;replace a1:=a1.ext af;replace a0:=a0.ext af;refine jG ?_;refine jQ ?_ (hx:=by exact fun _ hg=>(BU rfl rfl rfl));refine jP ?_ (hx:=by exact fun _=>(E6 rfl rfl rfl));refine jG ?_;replace K0:=K0.ext af;refine jF ?_ ?_
      ·intro hc32
       refine jG ?_;refine jJ func80 ?_;exact⟨_,rfl,by rw[Gk hc13 Zo hc27 (.inr (.inl ⟨y,Mp hB (by rw[<-Ir Zo];exact hy),(WN.1 hc32)⟩))],K0⟩
      ·intro hc32
       refine jG ?_;refine jV (HB (m':=(es.take i).length) (BX underlying27 ty76 rfl rfl Zo) Zt) ?_;refine jG ?_;refine Ai.loop (ι:=Nat) (fun j ρ' w'=>Holds ρ' [(5,jp a5),(57,.slice ae ((es.take i).length) ce),(58,.int .i64 (((es.take i).length:Nat):Int)),(59,.int .i64 ((j:Nat):Int))]∧Ap w w'∧(AB w' a8 [.slice ae es.length ce,.slice am ms.length cm,.slice ac cl.length cc] 33)∧(AB w' a5 [.string x.item,.int .i64 x.dot.node,.int .i64 x.dot.life,.int .i64 x.dot.count,.int .i64 x.qty,.int .u64 x.price] 76)∧(j<=(es.take i).length)∧(GL (fun y=>decide (y.dot=x.dot)) (es.take i) j)) (fun j=>(es.take i).length-j) 0 ?_ ?_
       ·refine⟨⟨rfl,rfl,rfl,rfl,trivial⟩,K0,a1,a0,?_,?_⟩
        ·omega
        ·exact GL.zero _ _
       clear a1 a0;clear K0;rintro j aR aS ⟨au,K0,a1,a0,hj,hno⟩ ih1;obtain⟨ρ₀,rfl⟩:=au.ex;clear au;refine jG ?_;refine jF ?_ ?_
       ·intro hc60
        obtain⟨aT,aU,z,hz,aV,aB⟩:=((hse.ext K0).take i).eo j;refine jG ?_;refine jR<|jA ?_;intro aW aX a2 av ag;have aY:=Ak a1.lt a2;have aZ:=Ak a0.lt a2;have b0:=Ak aB.lt a2;have:=Aaa K0.size a2;clear a2;refine jR<|jS av ?_;intro b1 av ah;replace a0:=(a0.ext ag).kp ah;refine jG ?_;refine jV (GJ Zk rfl rfl (Gz z.dot x.dot)) ?_;refine jG ?_;replace a1:=(a1.ext ag).kp ah;replace K0:=(K0.ext ag).n1 ah;refine jF ?_ ?_
        ·intro hc67
         refine jG ?_;refine jJ func80 ?_;exact⟨_,rfl,by rw[Gk hc13 Zo hc27 (.inr (.inr ⟨z,BI hz,hc67⟩))],K0⟩
        ·intro hc67
         refine jG ?_;refine jV (Az (c:=((j+1:Nat):Int)) (Au rfl rfl Zo Zo) rfl) ?_;refine jG ?_;refine ih1 (j+1) _ _ ?_ Zo;refine⟨⟨rfl,rfl,rfl,rfl,trivial⟩,K0,a1,a0,?_,?_⟩
         ·omega
         ·exact hno.step hz (decide_eq_false hc67)
       ·intro hc60
        refine jG ?_;refine jJ func80 ?_;exact⟨_,rfl,by rw[Nh hc13 Zo hc27 hA (WP Zo (by rw[<-Ir Zo];exact hy) (EV.1 Zo)) (Rj hno Zo)],K0⟩
     ·refine Ai.drawS [] [0,1001,2,1003,2004,5,6,7,8,9,10,11,12,13,14,15,16,2017,18,19,20,21] ?_
      intro b2 ai;replace a1:=a1.ext ai;replace a0:=a0.ext ai;refine jM (jb a1 (jb a0 Jn)) ?_;refine jG ?_;replace K0:=K0.ext ai;refine jU rfl<|jC (JV am ms cm ac cl cc x.dot _ (hs.ext K0) (ht.ext K0) Zo Zo) ?_;rintro _ b3 ⟨rfl,aj⟩;replace a1:=a1.ext aj;replace a0:=a0.ext aj;refine El ?_;refine jP ?_ (hx:=by exact fun _=>(D9 (Bn rfl) (by simp[hA])));refine Em ?_;refine jQ ?_ (hx:=by exact fun _ hg=>(D9 (GR rfl rfl) Zi));refine jG ?_;refine jY ?_;refine jG ?_;refine jQ ?_ (hx:=by exact fun _ hg=>(Be (b:=false) (e:=false) rfl rfl rfl));refine jP ?_ (hx:=by exact fun _=>(E6 rfl rfl rfl));refine jG ?_;refine Ai.condF rfl ?_;refine jG ?_;refine jV (HB (m':=(es.take i).length) (BX underlying27 ty76 rfl rfl Zo) Zt) ?_;refine jG ?_;replace K0:=K0.ext aj;refine Ai.loop (ι:=Nat) (fun j ρ' w'=>Holds ρ' [(5,jp a5),(57,.slice ae ((es.take i).length) ce),(58,.int .i64 (((es.take i).length:Nat):Int)),(59,.int .i64 ((j:Nat):Int))]∧Ap w w'∧(AB w' a8 [.slice ae es.length ce,.slice am ms.length cm,.slice ac cl.length cc] 33)∧(AB w' a5 [.string x.item,.int .i64 x.dot.node,.int .i64 x.dot.life,.int .i64 x.dot.count,.int .i64 x.qty,.int .u64 x.price] 76)∧(j<=(es.take i).length)∧(GL (fun y=>decide (y.dot=x.dot)) (es.take i) j)) (fun j=>(es.take i).length-j) 0 ?_ ?_
      ·refine⟨⟨rfl,rfl,rfl,rfl,trivial⟩,K0,a1,a0,?_,?_⟩
       ·omega
       ·exact GL.zero _ _
      clear a1 a0;clear K0;rintro j b4 b5 ⟨aw,K0,a1,a0,hj,hno⟩ ih2;obtain⟨ρ₀,rfl⟩:=aw.ex;clear aw;refine jG ?_;refine jF ?_ ?_
      ·intro hc60
       obtain⟨b6,b7,z,hz,b8,aC⟩:=((hse.ext K0).take i).eo j;refine jG ?_;refine jR<|jA ?_;intro b9 ba a3 ax ak;have bb:=Ak a1.lt a3;have bc:=Ak a0.lt a3;have be:=Ak aC.lt a3;have:=Aaa K0.size a3;clear a3;refine jR<|jS ax ?_;intro bg ax al;replace a0:=(a0.ext ak).kp al;refine jG ?_;refine jV (GJ Zk rfl rfl (Gz z.dot x.dot)) ?_;refine jG ?_;replace a1:=(a1.ext ak).kp al;replace K0:=(K0.ext ak).n1 al;refine jF ?_ ?_
       ·intro hc67
        refine jG ?_;refine jJ func80 ?_;exact⟨_,rfl,by rw[Gk hc13 Zo hc27 (.inr (.inr ⟨z,BI hz,hc67⟩))],K0⟩
       ·intro hc67
        refine jG ?_;refine jV (Az (c:=((j+1:Nat):Int)) (Au rfl rfl Zo Zo) rfl) ?_;refine jG ?_;refine ih2 (j+1) _ _ ?_ Zo;refine⟨⟨rfl,rfl,rfl,rfl,trivial⟩,K0,a1,a0,?_,?_⟩
        ·omega
        ·exact hno.step hz (decide_eq_false hc67)
      ·intro hc60
       refine jG ?_;refine jJ func80 ?_;exact⟨_,rfl,by rw[Nh hc13 Zo hc27 hA (YF Zo hB) (Rj hno Zo)],K0⟩
    ·refine Ai.drawS [] [0,1001,2,1003,2004,5,6,7,8,9,10,11,12,13,14,15,16,2017,18,19,20,21] ?_
     intro bh an;replace a1:=a1.ext an;replace a0:=a0.ext an;refine jM (jb a1 (jb a0 Jn)) ?_;refine jG ?_;replace K0:=K0.ext an;refine jU rfl<|jC (JV am ms cm ac cl cc x.dot _ (hs.ext K0) (ht.ext K0) Zo Zo) ?_;rintro _ bi ⟨rfl,ao⟩;replace a1:=a1.ext ao;replace a0:=a0.ext ao;refine El ?_;refine jP ?_ (hx:=by exact fun _=>(DN (Bn rfl) (by simp[hA])));refine jG ?_;refine jY ?_;refine jG ?_;refine jP ?_ (hx:=by exact fun _=>(D8 (b:=true) (e:=false) rfl rfl rfl));refine jG ?_;refine C4 ?_;refine jG ?_;refine jJ func80 ?_;replace K0:=K0.ext ao;exact⟨_,rfl,by rw[Gk hc13 Zo hc27 (.inl hA)],K0⟩
end
end Go.Proofs.YtjkaicjmfgekjaaGreatDoor
