/-
  Cl, Cm, Cn
-/
import Derived.Test.YtjkaicjmfgekjaaGreatDoorRows
import Derived.Test.YtjkaicjmfgekjaaGreatDoorPkCk
import Derived.Test.YtjkaicjmfgekjaaGreatDoorPkRune
import Derived.Laws.RangeString
import Derived.Shelf.Small.Strs
import Derived.Test.YtjkaicjmfgekjaaGreatDoorPkI
set_option linter.all false
set_option maxRecDepth 100000
set_option maxHeartbeats 4000000
namespace Go.Proofs.YtjkaicjmfgekjaaGreatDoor
open Go.Proofs.Tryz
attribute [local irreducible] RD RS Av RL RA RT CJ Aj
section
open Ieee Ieee.Format
def Bw (b:Int):Prop:=b≤9218868437227405312∨b=9223372036854775808
instance (b :Int):Decidable (Bw b):=by unfold Bw;infer_instance
theorem TO (x:Int):(some (compare x 0)=some Ordering.gt∨some (compare x 0)=some Ordering.eq)↔0≤x:=by
 have e:compare x 0=if x<0 then .lt else if x=0 then .eq else .gt:=by simp only[compare,compareOfLessAndEq]
 rw[e]
 by_cases h1:x<0
 ·simp[h1]
 ·by_cases h2:x=0
  ·simp[h2]
  ·simp[h1,h2];omega
theorem Wp (k:Nat):signed false 0 k=0:=by simp[signed]
theorem WY (m k:Nat):0≤signed false m k:=by simp only[signed,Bool.false_eq_true,if_false];exact Int.natCast_nonneg _
theorem WZ (m k:Nat):0≤signed true m k↔m=0:=by
 simp only[signed,if_true]
 have h:m<<<k=m*2^k:=Nat.shiftLeft_eq m k
 constructor
 ·intro h1
  have h2:m*2^k=0:=by omega
  rcases Nat.mul_eq_zero.1 h2 with h3|h3
  ·exact h3
  ·exact absurd h3 (Nat.ne_of_gt (Nat.two_pow_pos k))
 ·rintro rfl;simp
theorem read_zero :Ieee.double.read 0= .number false 0 Ieee.double.leastPlace:=by decide+kernel
theorem Mz {b:Nat}(hb:b<18446744073709551616):(Ieee.double.order b 0=some .gt∨Ieee.double.order b 0=some .eq)↔Bw b:=by
 have e1:Ieee.double.signWeight=9223372036854775808:=by decide+kernel
 have e2:Ieee.double.binade=4503599627370496:=by decide+kernel
 have e3:Ieee.double.infRung=9218868437227405312:=by decide+kernel
 unfold Format.order Bw
 rw[read_zero]
 unfold Format.read
 simp only[e1,e2,e3]
 by_cases hs:b<9223372036854775808
 ·have hn:(b/9223372036854775808%2==1)=false:=by simp;omega
  have hr:b%9223372036854775808=b:=Nat.mod_eq_of_lt hs
  rw[hn,hr]
  split
  ·simp only[Datum.order,Wp,TO,WY,true_iff];omega
  ·split
   ·simp only[Datum.order,Wp,TO,WY,true_iff];omega
   ·split
    ·simp[Datum.order];omega
    ·simp[Datum.order];omega
 ·have hn:(b/9223372036854775808%2==1)=true:=by simp;omega
  have hr:b%9223372036854775808=b-9223372036854775808:=by omega
  rw[hn,hr]
  split
  ·simp only[Datum.order,Wp,TO,WZ];omega
  ·split
   ·simp only[Datum.order,Wp,TO,WZ];omega
   ·split
    ·simp[Datum.order];omega
    ·simp[Datum.order];omega
theorem V5 {P:Program}{n:FN}{ρ:AV}{w:World}{dst:Option Nat}{ty:TypeId}{pos:String}{af:Array Edge}{g:Option (Nat×Bool)}{t t':TypeId}{x y:Operand}{b:Int}(h0:0≤b)(h1:b<18446744073709551616)(hx:rd n ρ x= .float .f64 b.toNat)(hy:rd n ρ y= .float .f64 0):
  X P n ρ ⟨dst,.binOp .geq t x y t',ty,pos,af,g⟩ w (.bool (decide (Bw b))) w:=by
 have h:=Mz (b:=b.toNat) Zo
 rw[Int.toNat_of_nonneg h0]at h
 have e:(Ieee.double.order b.toNat 0==some .gt||Ieee.double.order b.toNat 0==some .eq)=decide (Bw b):=by
  rw[Bool.eq_iff_iff,Bool.or_eq_true,beq_iff_eq,beq_iff_eq,decide_eq_true_eq];exact h
 rw[←e]
 simp[X,execOp,hx,hy,eqGuard,binOp,Op.floatCmp,FloatKind.format]
end
def FP (c:UInt8):Bool:=decide (¬(97≤(c.toNat:Int)∧(c.toNat:Int)≤122)∧¬(65≤(c.toNat:Int)∧(c.toNat:Int)≤90)∧¬(48≤(c.toNat:Int)∧(c.toNat:Int)≤57)∧(c.toNat:Int)≠46∧(c.toNat:Int)≠45∧(c.toNat:Int)≠95)
def A6 (s:ByteArray):Bool:=decide (s≠⟨#[]⟩∧s.size≤32)&& !(s.data.toList.any FP)
theorem R0 {s:ByteArray}(h:¬(s≠⟨#[]⟩∧s.size≤32)):A6 s=false:=by rw[A6,decide_eq_false h];rfl
theorem Kx {s:ByteArray}{i:Nat}{c:UInt8}(hx:s.data.toList[i]? =some c)(h:FP c=true):A6 s=false:=by rw[A6,UE hx h];simp
theorem P1 {s:ByteArray}{i:Nat}(h:s≠⟨#[]⟩∧s.size≤32)(hno:EF FP s.data.toList i)(hi:s.data.toList.length≤i):A6 s=true:=by rw[A6,QD hno hi,decide_eq_true h];rfl
def H9 (r:Nat):Bool:=decide (¬(97≤r∧r≤122)∧¬(65≤r∧r≤90)∧¬(48≤r∧r≤57)∧r≠46∧r≠45∧r≠95)
theorem set_ascii :∀n:Fin 128,(0≤Lib.indexByte [45,95,46] (IntKind.u8.wrap ((n.1:Nat):Int)).toNat.toUInt8↔(n.1=45∨n.1=95∨n.1=46)):=by decide+kernel
theorem Vc {r:Int}(h0:0≤r)(h:r<128):0≤Lib.indexByte ((⟨#[45,95,46]⟩:ByteArray).data.toList) (IntKind.u8.wrap r).toNat.toUInt8↔r=45∨r=95∨r=46:=by
 have:=set_ascii ⟨r.toNat,by omega⟩
 simp only[Int.toNat_of_nonneg h0]at this
 rw[show(⟨#[45,95,46]⟩:ByteArray).data.toList=[45,95,46]from rfl,this]
 omega
theorem set_far :∀c:UInt8,128≤c.toNat→(Lib.indexByte [46] c= -1∧Lib.indexByte [] c= -1):=by
 have:∀n:Fin 256,128≤(UInt8.ofNat n.1).toNat→(Lib.indexByte [46] (UInt8.ofNat n.1)= -1∧Lib.indexByte [] (UInt8.ofNat n.1)= -1):=by decide+kernel
 intro c hc
 have h:=this ⟨c.toNat,c.toNat_lt⟩
 simp only[UInt8.ofNat_toNat]at h
 exact h hc
theorem R1 {m:Nat}{c:UInt8}(h1:1≤m)(h3:m<3)(hc:128≤c.toNat):Lib.indexByte ((⟨#[45,95,46]⟩:ByteArray).extract (m+1) (⟨#[45,95,46]⟩:ByteArray).size).data.toList (c.toNat:Int).toNat.toUInt8= -1:=by
 have e:(c.toNat:Int).toNat.toUInt8=c:=by simp[Nat.toUInt8]
 rw[e]
 have h:=set_far c hc
 rcases (show m=1∨m=2 by omega)with rfl|rfl
 ·exact h.1
 ·exact h.2
theorem R2 {m:Nat}(h1:1≤m)(h3:m<3):∃d:UInt8,(⟨#[45,95,46]⟩:ByteArray).data.toList[m]? =some d∧d.toNat<128:=by
 rcases (show m=1∨m=2 by omega)with rfl|rfl
 ·exact⟨95,rfl,by decide⟩
 ·exact⟨46,rfl,by decide⟩
theorem Jl (r:Int):Utf8.valid r=(decide (0≤r)&&decide (r<55296)||decide (57344≤r)&&decide (r≤1114111)):=rfl
theorem Lm {P:Program}{f:FuncId}{a:Array Value}{w:World}{v:Value}(h:Calls P f a w fun e w'=>e= .returned v∧w'=w):Calls P f a w (AS fun x w'=>x=v∧w=w'):=h.mono fun e w' ⟨h1,h2⟩=>⟨_,h1,rfl,h2.symm⟩
theorem R3 {w w':World}(h:RowKit.Below w.heap.size w w'):Aq w w':=⟨h.os,h.tape,h.output,h.size,fun k hk _=>h.block k hk⟩
theorem P2 (s : ByteArray) : Lib.idxFunc H9 true s < 0 ↔ s.data.toList.any FP = false := by
  have key : ∀ (f p : Nat), p + f = s.size → (Lib.idxFuncFrom H9 true s f p < 0 ↔ (s.data.toList.drop p).any FP = false) := by
    intro f
    induction f with
    | zero =>
      intro p hp
      rw [List.drop_eq_nil_of_le (by rw [ED]; omega)]
      simp [Lib.idxFuncFrom]
    | succ f ih =>
      intro p hp
      have hps : p < s.size := by omega
      have hpl : p < s.data.toList.length := by rw [ED]; exact hps
      obtain ⟨c, hc⟩ := T6 s hps
      have hcg : s[p]'hps = c := by
        obtain ⟨h1, h2⟩ := List.getElem?_eq_some_iff.1 hc
        rw [← h2]; rfl
      have hd : s.data.toList.drop p = c :: s.data.toList.drop (p + 1) := by
        obtain ⟨h1, rfl⟩ := List.getElem?_eq_some_iff.1 hc
        exact List.drop_eq_getElem_cons h1
      unfold Lib.idxFuncFrom
      rw [if_pos hps, hd, List.any_cons]
      by_cases ha : c.toNat < 128
      · have hdec := decode_ascii s p hps (by rw [hcg]; exact ha)
        rw [hdec, hcg]
        have hb : H9 c.toNat = FP c := by
          unfold H9 FP
          rw [decide_eq_decide]
          omega
        rw [hb]
        cases hbb : FP c with
        | true => simp
        | false => simpa using ih (p + 1) Zo
      · have hbad : FP c = true := by unfold FP; rw [decide_eq_true_eq]; omega
        have hrune : H9 (Utf8.decode s p).1 = true := by
          have hge : 128 ≤ (Utf8.decode s p).1 := by
            have e : s.get! (p + 0) = c := by
              show s.get! p = _
              rw [← hcg]
              simp [ByteArray.get!, getElem!_pos, hps]
              rfl
            unfold Utf8.decode
            simp only [e, ha, if_false]
            split
            · split
              · rename_i h; exact Nat.le_trans Zd h
              · decide
            · split
              · split
                · rename_i h; simp only [Bool.and_eq_true, decide_eq_true_eq] at h; exact Nat.le_trans Zd h.1
                · decide
              · split
                · split
                  · rename_i h; simp only [Bool.and_eq_true, decide_eq_true_eq] at h; exact Nat.le_trans Zd h.1
                  · decide
                · decide
          unfold H9; rw [decide_eq_true_eq]; omega
        rw [hrune, hbad]
        simp
  have h := key s.size 0 Zo
  simpa [Lib.idxFunc] using h
theorem TP (s:ByteArray):(!decide (s=⟨#[]⟩)&&decide ((s.size:Int)≤32)&&decide (Lib.idxFunc H9 true s<0))=A6 s:=by
 rw[A6,Bool.eq_iff_iff]
 simp only[Bool.and_eq_true,Bool.not_eq_true',decide_eq_false_iff_not,decide_eq_true_eq,P2,ne_eq]
 constructor
 ·rintro⟨⟨h1,h2⟩,h3⟩;exact⟨⟨h1,by omega⟩,h3⟩
 ·rintro⟨⟨h1,h2⟩,h3⟩;exact⟨⟨h1,by omega⟩,h3⟩
attribute [local irreducible] X
theorem Iq (s:ByteArray)(w:World)(hl:s.size≤4294967295):
  Calls prog 8 #[.string s] w (AS (fun v w'=>v= .bool (A6 s)∧Aq w w')):=by
 have hdl:=ED s;refine Ae (n:=56) func8 rfl rfl rfl ?_;refine jG ?_;refine jV (N7 rfl rfl) ?_;refine jG ?_;refine jW ?_ (hx:=by exact fun hg=>(Cz underlying9 (Bf hg)));refine jG ?_;refine jV (CI rfl rfl rfl) ?_;refine jG ?_;refine jF ?_ ?_
 ·intro hc11
  refine jG ?_;refine jJ func8 ?_;exact⟨_,rfl,by rw[R0 (fun h_=>hc11.elim (fun e_=>h_.1 e_) (fun e_=>by omega))],(Ah.refl _ w)⟩
 ·intro hc11
  refine jG ?_;refine Aj.loop (ι:=Nat) (fun i ρ' w'=>Holds ρ' [(0,.string s),(3,.int .i64 ((i:Nat):Int))]∧Aq w w'∧(i≤s.size)∧(EF FP s.data.toList i)) (fun i=>s.size-i) 0 ?_ ?_
  ·refine⟨⟨rfl,rfl,trivial⟩,(Ah.refl _ w),?_,?_⟩
   ·omega
   ·exact EF.zero _ _
  rintro i a1 a2 ⟨a0,K0,hi,hno⟩ ih1;obtain⟨ρ₀,rfl⟩:=a0.ex;clear a0;refine jG ?_;refine jV (Cz underlying9 rfl) ?_;refine jG ?_;refine jF ?_ ?_
  ·intro hc15
   obtain⟨c,hx⟩:=T6 s (i:=i) Zo;refine jG ?_;refine jV (F1 underlying9 rfl rfl hx) ?_;refine jG ?_;refine jV (AJ rfl rfl rfl) ?_;refine jG ?_;refine jW ?_ (hx:=by exact fun hg=>(ID hg rfl rfl rfl));refine jV (CI rfl rfl rfl) ?_;refine jG ?_;refine jW ?_ (hx:=by exact fun hg=>(ID hg rfl rfl rfl));refine jV (CI rfl rfl rfl) ?_;refine jG ?_;refine jV (CI rfl rfl rfl) ?_;refine jG ?_;refine jV (CI rfl rfl rfl) ?_;refine jG ?_;refine jV (CI rfl rfl rfl) ?_;refine jG ?_;refine jF ?_ ?_
   ·intro hc55
    refine jG ?_;refine jJ func8 ?_;exact⟨_,rfl,by rw[Kx hx (by simp only[FP,decide_eq_true_eq];omega)],K0⟩
   ·intro hc55
    refine jG ?_;refine jV (At (c:=((i+1:Nat):Int)) (An rfl rfl Zo Zo) rfl) ?_;refine jG ?_;refine ih1 (i+1) _ _ ?_ Zo;refine⟨⟨rfl,rfl,trivial⟩,K0,?_,?_⟩
    ·omega
    ·exact hno.step hx (by simp only[FP,decide_eq_false_iff_not];omega)
  ·intro hc15
   refine jG ?_;refine jJ func8 ?_;exact⟨_,rfl,by rw[P1 ⟨hc11.1,by omega⟩ hno Zo],K0⟩
theorem R4 (b:Int)(w:World):
  Calls prog 72 #[.int .u64 b] w (AS (fun v w'=>v= .bool (decide (Bw b))∧Aq w w')):=by
 refine Ae (n:=9) func72 rfl rfl rfl ?_;refine jG ?_;refine jV (CI rfl rfl rfl) ?_;refine jG ?_;refine jJ func72 ?_;exact⟨_,rfl,congrArg Value.bool (by rw[Bool.eq_iff_iff,decide_eq_true_iff];unfold Bw;simp),(Ah.refl _ w)⟩
theorem WD (n k:Int)(w:World):
  Calls prog 71 #[.int .i64 n,.int .i64 k] w (AS (fun v w'=>v= .bool (decide (k≤n)&&decide (n≤1000000))∧Aq w w')):=by
 refine Ae (n:=12) func71 rfl rfl rfl ?_;refine jG ?_;refine jV (AJ rfl rfl rfl) ?_;refine jG ?_;refine jJ func71 ?_;exact⟨_,rfl,rfl,(Ah.refl _ w)⟩
theorem Vd (b:Int)(w:World)(h0:0≤b)(h1:b<18446744073709551616):
  Calls prog 143 #[.int .u64 b] w (AS (fun v w'=>v= .bool (decide (Bw b))∧Aq w w')):=by
 refine Ae (n:=6) func143 rfl rfl rfl ?_;refine jG ?_;refine jR<|Av.extn (vals:=[.int .u64 b]) (v:= .float .f64 b.toNat) rfl (by rw[run_callFunc_extern func201 Zk Zk Zk (e:=Extern.MathFloatBits.float64frombits) Zk];rfl) ?_;refine jV (V5 h0 h1 rfl rfl) ?_;refine jG ?_;refine jJ func143 ?_;exact⟨_,rfl,rfl,(Ah.refl _ w)⟩
theorem NO (r:Int)(w:World):
  Calls prog 278 #[.int .i32 r] w (AS (fun v w'=>v= .bool (Utf8.valid r)∧Aq w w')):=by
 refine Ae (n:=17) func278 rfl rfl rfl ?_;refine jG ?_;refine jV (AJ rfl rfl rfl) ?_;refine jG ?_;refine jF ?_ ?_
 ·intro hc3
  refine jG ?_;refine jJ func278 ?_;exact⟨_,rfl,congrArg Value.bool (by rw[Jl];simp;omega),(Ah.refl _ w)⟩
 ·intro hc3
  refine jG ?_;refine jV (AJ rfl rfl rfl) ?_;refine jG ?_;refine jF ?_ ?_
  ·intro hc10
   refine jG ?_;refine jJ func278 ?_;exact⟨_,rfl,congrArg Value.bool (by rw[Jl];simp;omega),(Ah.refl _ w)⟩
  ·intro hc10
   refine jG ?_;refine jJ func278 ?_;exact⟨_,rfl,congrArg Value.bool (by rw[Jl];simp;omega),(Ah.refl _ w)⟩
theorem R5 (r:Int)(w:World)(h0:0≤r)(h1:r≤1114111):
  Calls prog 238 #[.string (⟨#[45,95,46]⟩:ByteArray),.int .i32 r] w (AS (fun v w'=>∃q:Int,v= .int .i64 q∧(0≤q↔r=45∨r=95∨r=46)∧Aq w w')):=by
 refine Ae (n:=187) func238 rfl rfl rfl ?_;refine Ex ?_;by_cases hA:r<128
 ·refine Ex ?_
  refine jV (Cq (JO rfl rfl) (decide_eq_true h0)) ?_;refine FJ ?_;refine jT<|jO (Cq (FG rfl rfl) (decide_eq_true hA)) ?_;refine jV (Bv rfl rfl rfl) ?_;refine jG ?_;refine Ed ?_;refine jG ?_;refine jV (KQ rfl ⟨_,underlying21⟩ underlying5) ?_;refine jR<|jC (Lm (Any.strings_IndexByte idxBL (⟨#[45,95,46]⟩:ByteArray) (IntKind.u8.wrap r) _)) ?_;rintro _ _ ⟨rfl,rfl⟩;refine jG ?_;refine jJ func238 ?_;exact⟨_,rfl,_,rfl,Vc h0 hA,(Ah.refl _ w)⟩
 ·refine Ex ?_
  refine jV (Cq (JO rfl rfl) (decide_eq_true h0)) ?_;refine FJ ?_;refine jT<|jO (CW (FG rfl rfl) (decide_eq_false hA)) ?_;refine jV (Bv rfl rfl rfl) ?_;refine jG ?_;refine Aj.condF rfl ?_;refine Ds ?_;by_cases hB:r=65533
  ·refine Ex ?_
   refine jV (Cq (Gk rfl rfl) (by simp[hB])) ?_;refine jG ?_;refine Ed ?_;refine jG ?_;refine jR<|Av.rangeStr underlying9 rfl ?_;intro a0 ad a1 a2 a3;have:w.heap.size≤a0:=a1;have K0:=(a3:Aq w _);refine jG ?_;refine Aj.unloop ?_;refine jG ?_;refine jR<|Av.nextStr (p:=0) (r:=45) (wd:=1) rfl a2 Zd (by decide+kernel) ?_;intro ae a4 a5;refine jG ?_;refine Ed ?_;refine jG ?_;refine Aj.condF rfl ?_;refine jG ?_;refine Aj.inLoop ?_;refine jG ?_;refine jR<|Av.nextStr (p:=1) (r:=95) (wd:=1) rfl a4 Zd (by decide+kernel) ?_;intro af a6 a7;refine jG ?_;refine Ed ?_;refine jG ?_;refine Aj.condF rfl ?_;refine jG ?_;refine Aj.inLoop ?_;refine jG ?_;refine jR<|Av.nextStr (p:=2) (r:=46) (wd:=1) rfl a6 Zd (by decide+kernel) ?_;intro ag a8 a9;refine jG ?_;refine Ed ?_;refine jG ?_;refine Aj.condF rfl ?_;refine jG ?_;refine Aj.inLoop ?_;refine jG ?_;refine jR<|Av.nextEnd rfl a8 Zd ?_;refine jG ?_;refine Aj.condF rfl ?_;refine jG ?_;refine jJ func238 ?_;replace K0:=((K0.n1 a5).n1 a7).n1 a9;exact⟨_,rfl,_,rfl,by omega,K0⟩
  ·refine Ex ?_
   refine jV (CW (Gk rfl rfl) (by simp[hB])) ?_;refine jG ?_;refine Aj.condF rfl ?_;refine jG ?_;refine jR<|jC (NO _ _) ?_;rintro _ ah ⟨rfl,aa⟩;have K0:=(aa:Aq w _);refine jG ?_;refine jF ?_ ?_
   ·intro hc183
    skip
    refine jG ?_;refine jJ func238 ?_;exact⟨_,rfl,_,rfl,by omega,K0⟩
   ·intro hc183
    obtain⟨m,c,hm1,hm3,hsz,hcc,hc8⟩:=NN hc183 Zo;refine jG ?_;refine jV (P0 Zk underlying9 rfl) ?_;refine jG ?_;refine jV (At (c:=((m+1:Nat):Int)) (Cz underlying9 rfl) (by rw[hsz])) ?_;refine jV (At (c:=((m:Nat):Int)) (BE rfl rfl Zo Zo) Zo) ?_;refine jG ?_;refine Aj.unloop ?_;refine jG ?_;refine jV (At (c:=3) (Cz underlying9 rfl) Zd) ?_;refine jG ?_;refine jF ?_ ?_
    ·intro hc26
     refine jG ?_;obtain⟨d,hd,hd8⟩:=R2 hm1 Zo;refine Aj.drawR ?_;intro ai ab;refine jG ?_;refine jD (F1 (i:=m) (c:=d) underlying9 rfl rfl hd) ?_;refine jG ?_;refine jD (F1 (i:=m) (c:=c) underlying9 rfl rfl hcc) ?_;refine jD (Cq (IB rfl rfl) Zi) ?_;refine jG ?_;refine Ed ?_;refine jG ?_;refine Aj.drawT [] (m:=9) Zk rfl ?_;intro aj ac;refine⟨fun w'=>True,?_⟩;refine RT.takeP 0 rfl Zk (.inr trivial) (fun _=>(Ib rfl)) ?_;refine RT.takeP 1 rfl Zk (.inr trivial) (fun _=>(C8 rfl)) ?_;refine RT.takeP 2 rfl Zk (.inr trivial) (fun _=>(At (c:=((m+1:Nat):Int)) (An rfl rfl Zo Zo) rfl)) ?_;refine RT.takeP 3 rfl Zk (.inr trivial) (fun _=>(HR (i:=m+1) underlying9 rfl rfl (by simp only[show(⟨#[45,95,46]⟩:ByteArray).size=3 from rfl];omega))) ?_;refine RT.takeP 4 rfl Zk (.inr trivial) (fun _=>(Ib rfl)) ?_;refine RT.takeP 5 rfl Zk (.inr trivial) (fun _=>(C8 rfl)) ?_;refine RT.takeP 6 rfl Zk (.inr trivial) (fun _=>(F1 (i:=m) (c:=c) underlying9 rfl rfl hcc)) ?_;refine RT.st 7 rfl Zk rfl<|jC (Lm (Any.strings_IndexByte idxBL ((⟨#[45,95,46]⟩:ByteArray).extract (m+1) (⟨#[45,95,46]⟩:ByteArray).size) ((c).toNat:Int) _)) ?_;rintro _ _ ⟨rfl,rfl⟩;refine⟨.inr trivial,?_⟩;refine RT.takeP 8 rfl Zk (.inr trivial) (fun _=>(CE rfl)) ?_;refine RT.done Zk ?_;refine Ex ?_;refine jV (Cq (FG rfl rfl) (by rw[R1 hm1 Zo hc8];decide)) ?_;refine jG ?_;refine Ed ?_;refine jG ?_;refine jJ func238 ?_;replace K0:=(K0.ext ab).ext ac;exact⟨_,rfl,_,rfl,by omega,K0⟩
    ·intro hc26
     refine jG ?_;refine jJ func238 ?_;exact⟨_,rfl,_,rfl,by omega,K0⟩
theorem P3 (r:Int)(w:World)(h0:0≤r)(h1:r≤1114111):
  Calls prog 199 #[.string (⟨#[45,95,46]⟩:ByteArray),.int .i32 r] w (AS (fun v w'=>v= .bool (decide (r=45∨r=95∨r=46))∧Aq w w')):=by
 refine Ae (n:=9) func199 rfl rfl rfl ?_;refine jG ?_;refine jR<|jC (R5 r _ h0 h1) ?_;rintro _ a1 ⟨q,rfl,hq,a0⟩;have K0:=(a0:Aq w _);refine jG ?_;refine jJ func199 ?_;exact⟨_,rfl,congrArg Value.bool (by rw[decide_eq_decide];exact hq),K0⟩
theorem Ve (x:Nat)(w:World)(hx:x≤1114111):
  Calls prog 198 #[.int .i32 ((x:Nat):Int)] w (AS (fun v w'=>v= .bool (H9 x)∧Aq w w')):=by
 refine Ae (n:=30) func198 rfl rfl rfl ?_;refine jG ?_;refine jV (AJ rfl rfl rfl) ?_;refine jG ?_;refine jW ?_ (hx:=by exact fun hg=>(ID hg rfl rfl rfl));refine jV (CI rfl rfl rfl) ?_;refine jG ?_;refine jW ?_ (hx:=by exact fun hg=>(ID hg rfl rfl rfl));refine jV (CI rfl rfl rfl) ?_;refine jG ?_;refine RL.gcall (vals:=[.string (⟨#[45,95,46]⟩:ByteArray),.int .i32 ((x:Nat):Int)]) (Bl rfl rfl rfl rfl) en199.h (fun hg=>(BM rfl (BM (Bf hg) EJ))) (fun hg=>(P3 ((x:Nat):Int) _ Zo Zo)) ?_;intro a1 a0;have K0:=(a0:Aq w _);refine jV (CI rfl rfl rfl) ?_;refine jG ?_;refine jJ func198 ?_;exact⟨_,rfl,congrArg Value.bool (by unfold H9;rw[Bool.eq_iff_iff];simp;omega),K0⟩
theorem R6 (s:ByteArray)(w:World):Calls prog 239 #[.string s,.func (.func 198) #[] #[],.bool true] w (AS fun v w'=>v= .int .i64 (Lib.idxFunc H9 true s)∧Aq w w'):=
 (Any.strings_indexFunc_grows idxFL 198 #[] (Ec func198 rfl Zk) H9 true s w (fun W x hx _=>(Ve x W hx).mono fun e w' ⟨v,h1,h2,h3⟩=>⟨by rw[h1,h2],h3.below⟩)).mono fun e w' ⟨h1,h2⟩=>⟨_,h1,rfl,R3 h2⟩
theorem P4 (s:ByteArray)(w:World):
  Calls prog 200 #[.string s,.func (.func 198) #[] #[]] w (AS (fun v w'=>v= .int .i64 (Lib.idxFunc H9 true s)∧Aq w w')):=by
 refine Ae (n:=8) func200 rfl rfl rfl ?_;refine jG ?_;refine jR<|jC (R6 s _) ?_;rintro _ a1 ⟨rfl,a0⟩;have K0:=(a0:Aq w _);refine jG ?_;refine jJ func200 ?_;exact⟨_,rfl,rfl,K0⟩
theorem V6 (s:ByteArray)(w:World):
  Calls prog 142 #[.string s] w (AS (fun v w'=>v= .bool (A6 s)∧Aq w w')):=by
 refine Ae (n:=17) func142 rfl rfl rfl ?_;refine jG ?_;refine jV (Lz rfl rfl) ?_;refine jG ?_;refine jW ?_ (hx:=by exact fun hg=>(Cz underlying9 (Bf hg)));refine jG ?_;refine jV (AJ rfl rfl rfl) ?_;refine jG ?_;refine RL.gcall (vals:=[.string s,.func (.func 198) #[] #[]]) (Bg rfl rfl rfl rfl) en200.h (fun hg=>(BM (Bf hg) (BM (Bf hg) EJ))) (fun hg=>(P4 s _)) ?_;intro a1 a0;have K0:=(a0:Aq w _);refine jG ?_;refine jV (AJ rfl rfl rfl) ?_;refine jG ?_;refine jJ func142 ?_;exact⟨_,rfl,congrArg Value.bool (TP s),K0⟩
end Go.Proofs.YtjkaicjmfgekjaaGreatDoor
namespace Go.Proofs.YtjkaicjmfgekjaaGreatDoor
open Go.Proofs.Tryz
attribute [local irreducible] RD RS Av RL RA RT CJ Aj
theorem cmpB_lt : ∀ a b : List UInt8, Lib.compareBytes a b < 0 ↔ a < b
  | [], [] => by simp [Lib.compareBytes]
  | [], _ :: _ => by simp [Lib.compareBytes]
  | _ :: _, [] => by simp [Lib.compareBytes]
  | a :: r, b :: s => by
    rw [Lib.compareBytes, List.cons_lt_cons_iff, ← cmpB_lt r s]
    split
    · rename_i h; simp [h]
    · rename_i h
      split
      · rename_i h2
        simp only [h, false_or]
        constructor
        · intro h3; omega
        · rintro ⟨e, -⟩; subst e; exact absurd h2 h
      · rename_i h2
        have e : a = b := UInt8.toNat_inj.1 (by rw [UInt8.lt_iff_toNat_lt] at h h2; omega)
        simp [e]
theorem cmpB_eq : ∀ a b : List UInt8, Lib.compareBytes a b = 0 ↔ a = b
  | [], [] => by simp [Lib.compareBytes]
  | [], _ :: _ => by simp [Lib.compareBytes]
  | _ :: _, [] => by simp [Lib.compareBytes]
  | a :: r, b :: s => by
    rw [Lib.compareBytes]
    split
    · rename_i h
      constructor
      · intro h2; omega
      · intro e; cases e; exact absurd h (by rw [UInt8.lt_iff_toNat_lt]; omega)
    · rename_i h
      split
      · rename_i h2
        constructor
        · intro h2; omega
        · intro e; cases e; exact absurd h2 h
      · rename_i h2
        have e : a = b := UInt8.toNat_inj.1 (by rw [UInt8.lt_iff_toNat_lt] at h h2; omega)
        rw [cmpB_eq r s]; simp [e]
theorem MA {a b:ByteArray}:a.data.toList=b.data.toList↔a=b:=by
 constructor
 ·intro h;cases a;cases b;simp only[ByteArray.mk.injEq];exact Array.toList_inj.1 h
 ·rintro rfl;rfl
theorem Ir (a:List UInt8):¬a<a:=fun h=>by
 have h1:=(cmpB_lt a a).2 h
 have h2:=(cmpB_eq a a).2 rfl
 omega
theorem ltL_trans : ∀ {a b c : List UInt8}, a < b → b < c → a < c
  | _, _, [], _, h => absurd h (List.not_lt_nil _)
  | _, [], _ :: _, h, _ => absurd h (List.not_lt_nil _)
  | [], _ :: _, _ :: _, _, _ => List.nil_lt_cons _ _
  | a :: r, b :: s, c :: t, h1, h2 => by
    rw [List.cons_lt_cons_iff] at *
    simp only [UInt8.lt_iff_toNat_lt] at *
    rcases h1 with h1 | ⟨rfl, h1⟩ <;> rcases h2 with h2 | ⟨rfl, h2⟩
    · exact .inl Zo
    · exact .inl h1
    · exact .inl h2
    · exact .inr ⟨rfl, ltL_trans h1 h2⟩
theorem OW {a b : List UInt8} (h : ¬ a < b) (h2 : ¬ b < a) : a = b := by
  induction a generalizing b with
  | nil => cases b with
    | nil => rfl
    | cons => exact absurd (List.nil_lt_cons _ _) h
  | cons x a ih => cases b with
    | nil => exact absurd (List.nil_lt_cons _ _) h2
    | cons y b =>
      rw [List.cons_lt_cons_iff] at h h2
      simp only [UInt8.lt_iff_toNat_lt] at h h2
      have e : x = y := UInt8.toNat_inj.1 Zo
      subst e
      rw [ih (fun h3 => h (.inr ⟨rfl, h3⟩)) (fun h3 => h2 (.inr ⟨rfl, h3⟩))]
def DQ (a b:Ag):Prop:=a.item.data.toList<b.item.data.toList∨a.item=b.item∧CC a.dot b.dot
instance (a b:Ag):Decidable (DQ a b):=by unfold DQ;infer_instance
def D5 (a b:Ag):Int:=Lib.compareBytes a.item.data.toList b.item.data.toList
def Ha (a b:Ag):Int:=if D5 a b=0 then BL a.dot b.dot else D5 a b
theorem Eb {a b:Ag}:Ha a b<0↔DQ a b:=by
 unfold Ha DQ
 rw[←cmpB_lt]
 have e:=(cmpB_eq a.item.data.toList b.item.data.toList).trans MA
 unfold D5
 split
 ·rename_i h;rw[DP];simp[e.1 h,(cmpB_eq b.item.data.toList b.item.data.toList).2 rfl]
 ·rename_i h;simp only[show¬a.item=b.item from fun e2=>h (e.2 e2),false_and,or_false]
theorem TQ {a b:Ag}:0≤Ha a b↔¬DQ a b:=by rw[←Eb];omega
theorem Hb (a:Ag):¬DQ a a:=by
 rintro(h|⟨-,h⟩)
 ·exact Ir _ h
 ·exact Lb h
theorem DN (a b c:Ag)(h1:DQ a b)(h2:DQ b c):DQ a c:=by
 rcases h1 with h1|⟨e1,h1⟩<;>rcases h2 with h2|⟨e2,h2⟩
 ·exact .inl (ltL_trans h1 h2)
 ·exact .inl (e2▸h1)
 ·exact .inl (e1▸h2)
 ·exact .inr ⟨e1.trans e2,E4 h1 h2⟩
theorem Is {a b:Ag}(h:¬DQ a b)(h2:¬DQ b a):a.item=b.item∧a.dot=b.dot:=by
 have e:a.item=b.item:=MA.1 (OW (fun h3=>h (.inl h3)) (fun h3=>h2 (.inl h3)))
 exact⟨e,Io (fun h3=>h (.inr ⟨e,h3⟩)) (fun h3=>h2 (.inr ⟨e.symm,h3⟩))⟩
def itemsN :List Ag→Nat
 |[]=>0
 |[_]=>1
 |x::y::t=>(if x.item=y.item then 0 else 1)+itemsN (y::t)
theorem itemsN_le : ∀ l : List Ag, itemsN l ≤ l.length
  | [] => Nat.le_refl _
  | [_] => Nat.le_refl _
  | x :: y :: t => by
    have := itemsN_le (y :: t)
    rw [itemsN]
    split <;> simp only [List.length_cons] at * <;> omega
theorem itemsN_snoc : ∀ (l : List Ag) (y : Ag), itemsN (l ++ [y]) = itemsN l + (if ∃ x, l.getLast? = some x ∧ x.item = y.item then 0 else 1)
  | [], y => by simp [itemsN]
  | [x], y => by simp [itemsN]; split <;> rfl
  | x :: z :: t, y => by
    have h := itemsN_snoc (z :: t) y
    rw [List.cons_append, List.cons_append, itemsN, ← List.cons_append, h, itemsN, List.getLast?_cons_cons]
    omega
theorem itemsN_run : ∀ (k : Nat) (x : Ag) (t : List Ag), (∀ j y, j < k → (x :: t)[j]? = some y → y.item = x.item) → 1 ≤ k → k ≤ t.length + 1 → (∀ y, (x :: t)[k]? = some y → y.item ≠ x.item) → itemsN (x :: t) = 1 + itemsN ((x :: t).drop k)
  | 0, _, _, _, h, _, _ => absurd h Zo
  | 1, x, [], _, _, _, _ => by simp [itemsN]
  | 1, x, y :: t, _, _, _, h => by
    have := h y rfl
    rw [itemsN, if_neg (fun e => this e.symm)]; rfl
  | k + 2, x, [], _, _, h, _ => absurd h Zs
  | k + 2, x, y :: t, h, _, hl, hn => by
    have e : y.item = x.item := h 1 y Zo rfl
    rw [itemsN, if_pos e.symm, Nat.zero_add, List.drop_succ_cons]
    exact itemsN_run (k + 1) y t (fun j z hj hz => by rw [e]; exact h (j + 1) z Zo (by simpa using hz)) Zo (by simp only [List.length_cons] at hl; omega) (fun z hz => by rw [e]; exact hn z (by simpa using hz))
noncomputable def CQ (ms:List Aa)(cl:List Ad)(pre:List Ag)(x:Ag):Int:=
 open Classical in
 if A6 x.item=false then 6 else if ¬(1≤x.qty∧x.qty≤1000000)then 52 else if ¬Bw x.price then 53
 else if ¬B0 ms cl x.dot∨(∃y,pre.getLast? =some y∧¬DQ y x)∨(∃y∈pre,y.dot=x.dot)then 50 else 0
noncomputable def A0 (ms:List Aa)(cl:List Ad)(es:List Ag):Nat→Int
 |0=>0
 |n+1=>if A0 ms cl es n≠0 then A0 ms cl es n else match es[n]? with|some x=>CQ ms cl (es.take n) x|none=>0
noncomputable def Bj (ms:List Aa)(cl:List Ad)(es:List Ag):Int:=
 if B4 ms cl=false then 30 else if 64<es.length then 51 else if A0 ms cl es es.length≠0 then A0 ms cl es es.length else if 32<itemsN es then 51 else 0
section
variable {ms :List Aa}{cl:List Ad}{es pre:List Ag}{x y:Ag}{i:Nat}
theorem HG (h:A6 x.item=false):CQ ms cl pre x=6:=by rw[CQ,if_pos h]
theorem Jm (h1:A6 x.item=true)(h:¬(1≤x.qty∧x.qty≤1000000)):CQ ms cl pre x=52:=by rw[CQ,if_neg (by simp[h1]),if_pos h]
theorem GG (h1:A6 x.item=true)(h2:1≤x.qty∧x.qty≤1000000)(h:¬Bw x.price):CQ ms cl pre x=53:=by rw[CQ,if_neg (by simp[h1]),if_neg (not_not_intro h2),if_pos h]
theorem CY (h1:A6 x.item=true)(h2:1≤x.qty∧x.qty≤1000000)(h3:Bw x.price)(h:¬B0 ms cl x.dot∨(∃y,pre.getLast? =some y∧¬DQ y x)∨(∃y∈pre,y.dot=x.dot)):CQ ms cl pre x=50:=by
 rw[CQ,if_neg (by simp[h1]),if_neg (not_not_intro h2),if_neg (not_not_intro h3),if_pos h]
theorem Hc (h1:A6 x.item=true)(h2:1≤x.qty∧x.qty≤1000000)(h3:Bw x.price)(h:B0 ms cl x.dot)(h4:∀y,pre.getLast? =some y→DQ y x)(h5:∀y∈pre,y.dot≠x.dot):CQ ms cl pre x=0:=by
 rw[CQ,if_neg (by simp[h1]),if_neg (not_not_intro h2),if_neg (not_not_intro h3),if_neg]
 rintro(h6|⟨y,hy,h6⟩|⟨y,hy,h6⟩)
 ·exact h6 h
 ·exact h6 (h4 y hy)
 ·exact h5 y hy h6
structure V7 (ms:List Aa)(cl:List Ad)(pre:List Ag)(x:Ag):Prop where
 name:A6 x.item=true
 qty:1≤x.qty∧x.qty≤1000000
 price:Bw x.price
 cov:B0 ms cl x.dot
 last:∀y,pre.getLast? =some y→DQ y x
 dots:∀y∈pre,y.dot≠x.dot
theorem errE_iff :CQ ms cl pre x=0↔V7 ms cl pre x:=by
 constructor
 ·intro h
  have h1:A6 x.item=true:=Decidable.byContradiction fun h1=>by rw[HG (by simpa using h1)]at h;omega
  have h2:1≤x.qty∧x.qty≤1000000:=Decidable.byContradiction fun h2=>by rw[Jm h1 h2]at h;omega
  have h3:Bw x.price:=Decidable.byContradiction fun h3=>by rw[GG h1 h2 h3]at h;omega
  have h4:¬(¬B0 ms cl x.dot∨(∃y,pre.getLast? =some y∧¬DQ y x)∨(∃y∈pre,y.dot=x.dot)):=fun h4=>by rw[CY h1 h2 h3 h4]at h;omega
  exact⟨h1,h2,h3,Decidable.byContradiction fun h5=>h4 (.inl h5),fun y hy=>Decidable.byContradiction fun h5=>h4 (.inr (.inl ⟨y,hy,h5⟩)),fun y hy e=>h4 (.inr (.inr ⟨y,hy,e⟩))⟩
 ·intro h;exact Hc h.name h.qty h.price h.cov h.last h.dots
theorem Fu (n:Nat):A0 ms cl es (n+1)=if A0 ms cl es n≠0 then A0 ms cl es n else match es[n]? with|some x=>CQ ms cl (es.take n) x|none=>0:=rfl
theorem MB {n m : Nat} (h : A0 ms cl es n ≠ 0) (hm : n ≤ m) : A0 ms cl es m = A0 ms cl es n := by
  induction m with
  | zero => have : n = 0 := by omega
            subst this; rfl
  | succ m ih =>
    by_cases e : n = m + 1
    · subst e; rfl
    · have := ih Zo
      rw [Fu, this, if_pos h]
theorem Ky (h0:A0 ms cl es i=0)(hx:es[i]? =some x)(h:CQ ms cl (es.take i) x≠0):A0 ms cl es es.length=CQ ms cl (es.take i) x:=by
 have hi:=(List.getElem?_eq_some_iff.1 hx).1
 have e:A0 ms cl es (i+1)=CQ ms cl (es.take i) x:=by rw[Fu,if_neg (not_not_intro h0),hx]
 rw[MB (n:=i+1) (by rw[e];exact h) hi,e]
theorem EG (h0:A0 ms cl es i=0)(hx:es[i]? =some x)(h:CQ ms cl (es.take i) x=0):A0 ms cl es (i+1)=0:=by rw[Fu,if_neg (not_not_intro h0),hx];exact h
theorem firstE_all : ∀ {n : Nat}, A0 ms cl es n = 0 → ∀ i x, i < n → es[i]? = some x → V7 ms cl (es.take i) x
  | 0, _, _, _, h, _ => absurd h Zo
  | n + 1, h, i, x, hi, hx => by
    rw [Fu] at h
    by_cases h0 : A0 ms cl es n = 0
    · rw [if_neg (not_not_intro h0)] at h
      by_cases e : i = n
      · subst e; rw [hx] at h; exact errE_iff.1 h
      · exact firstE_all h0 i x Zo hx
    · rw [if_pos h0] at h; exact absurd h h0
theorem Jo (h:B4 ms cl=false):Bj ms cl es=30:=by rw[Bj,if_pos h]
theorem HH (h:B4 ms cl=true)(h2:64<es.length):Bj ms cl es=51:=by rw[Bj,if_neg (by simp[h]),if_pos h2]
theorem OX (h:B4 ms cl=true)(h2:es.length≤64)(h0:A0 ms cl es i=0)(hx:es[i]? =some x)(h3:CQ ms cl (es.take i) x≠0):Bj ms cl es=CQ ms cl (es.take i) x:=by
 rw[Bj,if_neg (by simp[h]),if_neg Zo,if_pos (by rw[Ky h0 hx h3];exact h3),Ky h0 hx h3]
theorem HI (h:B4 ms cl=true)(h2:es.length≤64)(h0:A0 ms cl es es.length=0)(h3:32<itemsN es):Bj ms cl es=51:=by rw[Bj,if_neg (by simp[h]),if_neg Zo,if_neg (not_not_intro h0),if_pos h3]
theorem It (h:B4 ms cl=true)(h2:es.length≤64)(h0:A0 ms cl es es.length=0)(h3:itemsN es≤32):Bj ms cl es=0:=by rw[Bj,if_neg (by simp[h]),if_neg Zo,if_neg (not_not_intro h0),if_neg Zo]
structure Fa (ms:List Aa)(cl:List Ad)(es:List Ag):Prop where
 ctx:DF ms cl
 len:es.length≤64
 ent:∀i x,es[i]? =some x→V7 ms cl (es.take i) x
 items:itemsN es≤32
theorem Co (h:Bj ms cl es=0):Fa ms cl es:=by
 have h1:B4 ms cl=true:=by
  cases hc:B4 ms cl with
  |true=>rfl
  |false=>rw[Jo hc]at h;omega
 have h2:es.length≤64:=Nat.le_of_not_lt fun h2=>by rw[HH h1 h2]at h;omega
 have h3:A0 ms cl es es.length=0:=Decidable.byContradiction fun h3=>by
  rw[Bj,if_neg (by simp[h1]),if_neg Zo,if_pos h3]at h;exact h3 h
 have h4:itemsN es≤32:=Nat.le_of_not_lt fun h4=>by rw[HI h1 h2 h3 h4]at h;omega
 exact⟨C5.1 h1,h2,fun i x hx=>firstE_all h3 i x (List.getElem?_eq_some_iff.1 hx).1 hx,h4⟩
theorem Fb {es:List Ag}(hi:0<i)(h:es[i-1]? =some y):(es.take i).getLast? =some y:=by
 have hl:=(List.getElem?_eq_some_iff.1 h).1
 rw[List.getLast?_eq_getElem?,List.length_take,Nat.min_eq_left Zo,List.getElem?_take_of_lt Zo];exact h
theorem EM {es:List Ag}(hl:i≤es.length)(h:(es.take i).getLast? =some y):0<i∧es[i-1]? =some y:=by
 rw[List.getLast?_eq_getElem?,List.length_take,Nat.min_eq_left Zo]at h
 by_cases h0:0<i
 ·rw[List.getElem?_take_of_lt Zo]at h;exact⟨h0,h⟩
 ·have:i=0:=by omega
  subst this;simp at h
theorem Fa.sorted (h:Fa ms cl es):es.Pairwise DQ:=Fp (fun a b c=>DN a b c) fun i x y hx hy=>(h.ent (i+1) y hy).last x (Fb Zo hx)
theorem Fa.mem (h:Fa ms cl es)(hx:x∈es):A6 x.item=true∧(1≤x.qty∧x.qty≤1000000)∧Bw x.price∧B0 ms cl x.dot:=by
 obtain⟨i,hi,rfl⟩:=List.getElem_of_mem hx
 have h:=h.ent i _ (List.getElem?_eq_getElem hi)
 exact⟨h.name,h.qty,h.price,h.cov⟩
theorem Fa.dots (h:Fa ms cl es){x y:Ag}(hx:x∈es)(hy:y∈es)(e:x.dot=y.dot):x=y:=by
 obtain⟨i,hi,rfl⟩:=List.getElem_of_mem hx
 obtain⟨j,hj,rfl⟩:=List.getElem_of_mem hy
 rcases Nat.lt_trichotomy i j with hlt|rfl|hlt
 ·exact absurd e ((h.ent j _ (List.getElem?_eq_getElem hj)).dots _ (List.mem_take_iff_getElem.2 ⟨i,by omega,rfl⟩))
 ·rfl
 ·exact absurd e.symm ((h.ent i _ (List.getElem?_eq_getElem hi)).dots _ (List.mem_take_iff_getElem.2 ⟨j,by omega,rfl⟩))
end
def Gr (w w':World):Prop:=∃(q:Nat) (os':Array Obj),w'=Go.Sort.grow (w.drewN q) os'
theorem Gr.refl (w:World):Gr w w:=⟨0,#[],by simp[Go.Sort.grow,World.drewN]⟩
theorem Gr.push (w:World)(o:Obj):Gr w {w with heap:=w.heap.push o}:=⟨0,#[o],by simp[Go.Sort.grow,World.drewN]⟩
theorem Gr.trans {a b c:World}(h:Gr a b)(k:Gr b c):Gr a c:=by
 obtain⟨q,os',rfl⟩:=h
 obtain⟨q2,os2,rfl⟩:=k
 exact⟨q+q2,os'++os2,by simp[Go.Sort.grow,World.drewN,Nat.add_assoc]⟩
section
variable {α :Type}[Enc α]{P:Program}{f:FuncId}{n:FN}{R:Ending→World→Prop}{k:List Item}{ρ:AV}{w:World}{dst:Option Nat}{ty:TypeId}{pos:String}{af:Array Edge}{K:AV→World→Prop}
theorem Av.boxG {e:TypeId}{x:Operand}{v:Value}(hx:rd n ρ x=v)
  (h:∀b w',w.heap.size≤b→AA w' b v.cells.toList e→Aq w w'→Gr w w'→K (A4 ρ dst (jp b)) w'):
  Av P f n R k ⟨dst,.box e x,ty,pos,af,none⟩ ρ w K:=
 Av.val (T5 hx) (h _ _ (Nat.le_refl _) (GK w _ e) (Aq.push w _) (Gr.push w _))
theorem Av.buildSliceG {t e:TypeId}{bytes len:Nat}{z:Value}{agg:Bool}{parts:List (Nat×Operand)}(ys:List α)(ht:P.underlying t=some (.slice e))(he:Ty P e (Enc.size α) bytes z agg)
  (hlen:len=ys.length) (hp:(parts.map fun(i,x)=>(i,rd n ρ x))=((ys.map Enc.val).zipIdx 0).map fun x=>(x.2,x.1)) (hl:ys.length*Enc.size α≤16777216)
  (h:∀b w',w.heap.size≤b→Af w' e (some ⟨b,0,none⟩) ys.length ys→Aq w w'→Gr w w'→K (A4 ρ dst (.slice (some ⟨b,0,none⟩) ys.length ys.length)) w'):
  Av P f n R k ⟨dst,.buildSlice t len parts.toArray,ty,pos,af,none⟩ ρ w K:=by
 subst hlen
 have hpos:=Enc.pos (α:=α)
 have hm:ys.length≤ys.length*Enc.size α:=Nat.le_mul_of_pos_right _ hpos
 have hr:=run_buildSlice (P:=P) (w:=w) ht he ys (parts.toArray.map fun(i,x)=>(i,rd n ρ x)) (by simpa using hp) hl
 refine Av.val (v:= .slice (some ⟨w.heap.size,0,none⟩) ys.length ys.length) (w':={w with heap:=w.heap.push (.cells (AB ys).toArray e)}) ?_ (h _ _ (Nat.le_refl _) (LB w e ys (by simp only[maxLen];omega)) (Aq.push w _) (Gr.push w _))
 simp only[execOp,Sem.run_bind,hr,Result.andThen_ok,Sem.run_pure]
theorem V8 {t t':TypeId}{x y:Operand}{a b:ByteArray}{g:Option (Nat×Bool)}(hx:rd n ρ x= .string a)(hy:rd n ρ y= .string b):X P n ρ ⟨dst,.binOp .gtr t x y t',ty,pos,af,g⟩ w (.bool (decide (b.data.toList<a.data.toList))) w:=by
 have e:(!decide (a.data.toList<b.data.toList)&& !(a.data.toList==b.data.toList))=decide (b.data.toList<a.data.toList):=by
  rw[Bool.eq_iff_iff]
  simp only[Bool.and_eq_true,Bool.not_eq_true',decide_eq_false_iff_not,decide_eq_true_eq,beq_eq_false_iff_ne]
  exact⟨fun h=>Decidable.byContradiction fun h2=>h.2 (OW h.1 h2),fun h=>⟨fun h2=>Ir _ (ltL_trans h h2),fun h2=>by rw[h2]at h;exact Ir _ h⟩⟩
 rw[←e]
 simp[X,execOp,hx,hy,eqGuard,binOp,Op.stringOp,bytesLess_eq,ByteArray.toList_eq]
end
theorem FQ {es:List Ag}{i:Nat}{x:Ag}(hx:es[i]? =some x):itemsN (es.take (i+1))=itemsN (es.take i)+(if ∃y,(es.take i).getLast? =some y∧y.item=x.item then 0 else 1):=by
 rw[CP hx,itemsN_snoc]
theorem MC {es:List Ag}{i:Nat}{x:Ag}(hx:es[i]? =some x)(h:i=0):itemsN (es.take (i+1))=itemsN (es.take i)+1:=by
 rw[FQ hx,if_neg];subst h;rintro⟨y,hy,-⟩;simp at hy
theorem NP {es:List Ag}{i:Nat}{x y:Ag}(hx:es[i]? =some x)(h:0<i)(hy:es[i-1]? =some y)(hn:¬y.item=x.item):itemsN (es.take (i+1))=itemsN (es.take i)+1:=by
 rw[FQ hx,if_neg];rintro⟨z,hz,e⟩;rw[Fb h hy]at hz;cases hz;exact hn e
theorem MD {es:List Ag}{i:Nat}{x y:Ag}(hx:es[i]? =some x)(h:0<i)(hy:es[i-1]? =some y)(hn:y.item=x.item):itemsN (es.take (i+1))=itemsN (es.take i):=by
 rw[FQ hx,if_pos ⟨y,Fb h hy,hn⟩];rfl
theorem ME (es:List Ag):itemsN (es.take 0)=0:=rfl
theorem Gp (es:List Ag)(i:Nat):itemsN (es.take i)≤es.length:=Nat.le_trans (itemsN_le _) Zt
attribute [local irreducible] AE FC CC BS BL B2 B0 Du
attribute [local irreducible] DQ D5 itemsN CQ A0 Bj B4 Gr
attribute [local irreducible] X
theorem Ul (a b:Ag)(w:World)(ha:FC a.dot)(hb:FC b.dot):
  Calls prog 145 #[.agg #[.string ((a).item),.int .i64 (((a).dot).node),.int .i64 (((a).dot).life),.int .i64 (((a).dot).count),.int .i64 ((a).qty),.int .u64 ((a).price)],.agg #[.string ((b).item),.int .i64 (((b).dot).node),.int .i64 (((b).dot).life),.int .i64 (((b).dot).count),.int .i64 ((b).qty),.int .u64 ((b).price)]] w (AS (fun v w'=>v= .int .i64 (Ha a b)∧Aq w w'∧Gr w w')):=by
 unfold FC at ha hb;obtain⟨ha1,ha2,ha3⟩:=ha;obtain⟨hb1,hb2,hb3⟩:=hb;have G0:=Gr.refl w;refine Ae (n:=45) func145 rfl rfl rfl ?_;refine jG ?_;refine jR<|Av.boxG (v:= .agg #[.string ((a).item),.int .i64 (((a).dot).node),.int .i64 (((a).dot).life),.int .i64 (((a).dot).count),.int .i64 ((a).qty),.int .u64 ((a).price)]) rfl ?_;intro a3 a7 a4 a1 a8 hG_;replace a1:AA a7 a3 [.string ((a).item),.int .i64 (((a).dot).node),.int .i64 (((a).dot).life),.int .i64 (((a).dot).count),.int .i64 ((a).qty),.int .u64 ((a).price)] 76:=a1;have:w.heap.size≤a3:=a4;clear a4;have K0:=(a8:Aq w _);replace G0:=Gr.trans G0 hG_;clear hG_;refine jR<|Av.boxG (v:= .agg #[.string ((b).item),.int .i64 (((b).dot).node),.int .i64 (((b).dot).life),.int .i64 (((b).dot).count),.int .i64 ((b).qty),.int .u64 ((b).price)]) rfl ?_;intro a9 aa a2 a5 a6 hG_;replace a5:AA aa a9 [.string ((b).item),.int .i64 (((b).dot).node),.int .i64 (((b).dot).life),.int .i64 (((b).dot).count),.int .i64 ((b).qty),.int .u64 ((b).price)] 76:=a5;have aH:=Ai a1.lt a2;have:=Nat.le_trans K0.size a2;clear a2;replace G0:=Gr.trans G0 hG_;clear hG_;replace a1:=a1.ext a6;refine jG ?_;refine jR<|jC (Lm (Any.strings_Compare cmpSL a.item b.item _)) ?_;rintro _ _ ⟨rfl,rfl⟩;refine jG ?_;refine jV (BE rfl rfl Zo Zo) ?_;refine jG ?_;refine jV (BE rfl rfl Zo Zo) ?_;refine jG ?_;refine jV (BE rfl rfl Zo Zo) ?_;refine jR<|Av.buildSliceG ([(((a).dot).node)-(((b).dot).node),(((a).dot).life)-(((b).dot).life),(((a).dot).count)-(((b).dot).count)]:List Int) underlying185 ty3 rfl rfl Ze ?_;intro aI aJ ab a0 ac hG_;clear ab;replace G0:=Gr.trans G0 hG_;clear hG_;refine jV (At (c:=3) (Cu underlying185 rfl) rfl) ?_;refine jG ?_;refine Aj.unloop ?_;refine jG ?_;refine Ed ?_;refine Ds ?_;obtain⟨aK,aL,ad,ae,af,ag⟩:=a0.sl.el (i:=0) Zs;obtain rfl:(((a).dot).node)-(((b).dot).node)=ad:=Option.some.inj ae;refine jV (AI underlying185 ty3 rfl rfl af Zs) ?_;refine jV (Dw (v:= .int .i64 ((((a).dot).node)-(((b).dot).node))) (y:=(((a).dot).node)-(((b).dot).node)) ty3 rfl ag rfl) ?_;refine jG ?_;replace K0:=(K0.ext a6).ext ac;refine jF ?_ ?_
 ·intro hc41
  refine jG ?_;refine jV (At (c:=1) (An rfl rfl Zd Zd) Zd) ?_;refine jG ?_;refine Aj.inLoop ?_;refine jG ?_;refine Ed ?_;refine Ds ?_;obtain⟨aM,aN,ah,ai,aj,ak⟩:=a0.sl.el (i:=1) Zs;obtain rfl:(((a).dot).life)-(((b).dot).life)=ah:=Option.some.inj ai;refine jV (AI underlying185 ty3 rfl rfl aj Zs) ?_;refine jV (Dw (v:= .int .i64 ((((a).dot).life)-(((b).dot).life))) (y:=(((a).dot).life)-(((b).dot).life)) ty3 rfl ak rfl) ?_;refine jG ?_;refine jF ?_ ?_
  ·intro hc41
   refine jG ?_;refine jV (At (c:=2) (An rfl rfl Zd Zd) Zd) ?_;refine jG ?_;refine Aj.inLoop ?_;refine jG ?_;refine Ed ?_;refine Ds ?_;obtain⟨aO,aP,al,am,an,ao⟩:=a0.sl.el (i:=2) Zs;obtain rfl:(((a).dot).count)-(((b).dot).count)=al:=Option.some.inj am;refine jV (AI underlying185 ty3 rfl rfl an Zs) ?_;refine jV (Dw (v:= .int .i64 ((((a).dot).count)-(((b).dot).count))) (y:=(((a).dot).count)-(((b).dot).count)) ty3 rfl ao rfl) ?_;refine jG ?_;refine jF ?_ ?_
   ·intro hc41
    refine jG ?_;refine jV (At (c:=3) (An rfl rfl Zd Zd) Zd) ?_;refine jG ?_;refine Aj.inLoop ?_;refine jG ?_;refine Aj.condF rfl ?_;refine jG ?_;refine jJ func145 ?_;exact⟨_,rfl,by unfold Ha D5 BL;(repeat' split)<;>first|rfl|omega,K0,G0⟩
   ·intro hc41
    refine jG ?_;refine jV (At (c:=3) (An rfl rfl Zd Zd) Zd) ?_;refine jG ?_;refine Aj.inLoop ?_;refine jG ?_;refine Aj.condF rfl ?_;refine jG ?_;refine jJ func145 ?_;exact⟨_,rfl,by unfold Ha D5 BL;(repeat' split)<;>first|rfl|omega,K0,G0⟩
  ·intro hc41
   refine jG ?_;refine jV (At (c:=2) (An rfl rfl Zd Zd) Zd) ?_;refine jG ?_;refine Aj.inLoop ?_;refine jG ?_;refine Ed ?_;refine Ds ?_;obtain⟨aQ,aR,ap,aq,ar,au⟩:=a0.sl.el (i:=2) Zs;obtain rfl:(((a).dot).count)-(((b).dot).count)=ap:=Option.some.inj aq;refine jV (AI underlying185 ty3 rfl rfl ar Zs) ?_;refine jV (Dw (v:= .int .i64 ((((a).dot).count)-(((b).dot).count))) (y:=(((a).dot).count)-(((b).dot).count)) ty3 rfl au rfl) ?_;refine jG ?_;refine jF ?_ ?_
   ·intro hc41
    refine jG ?_;refine jV (At (c:=3) (An rfl rfl Zd Zd) Zd) ?_;refine jG ?_;refine Aj.inLoop ?_;refine jG ?_;refine Aj.condF rfl ?_;refine jG ?_;refine jJ func145 ?_;exact⟨_,rfl,by unfold Ha D5 BL;(repeat' split)<;>first|rfl|omega,K0,G0⟩
   ·intro hc41
    refine jG ?_;refine jV (At (c:=3) (An rfl rfl Zd Zd) Zd) ?_;refine jG ?_;refine Aj.inLoop ?_;refine jG ?_;refine Aj.condF rfl ?_;refine jG ?_;refine jJ func145 ?_;exact⟨_,rfl,by unfold Ha D5 BL;(repeat' split)<;>first|rfl|omega,K0,G0⟩
 ·intro hc41
  refine jG ?_;refine jV (At (c:=1) (An rfl rfl Zd Zd) Zd) ?_;refine jG ?_;refine Aj.inLoop ?_;refine jG ?_;refine Ed ?_;refine Ds ?_;obtain⟨aS,aT,av,aw,ax,ay⟩:=a0.sl.el (i:=1) Zs;obtain rfl:(((a).dot).life)-(((b).dot).life)=av:=Option.some.inj aw;refine jV (AI underlying185 ty3 rfl rfl ax Zs) ?_;refine jV (Dw (v:= .int .i64 ((((a).dot).life)-(((b).dot).life))) (y:=(((a).dot).life)-(((b).dot).life)) ty3 rfl ay rfl) ?_;refine jG ?_;refine jF ?_ ?_
  ·intro hc41
   refine jG ?_;refine jV (At (c:=2) (An rfl rfl Zd Zd) Zd) ?_;refine jG ?_;refine Aj.inLoop ?_;refine jG ?_;refine Ed ?_;refine Ds ?_;obtain⟨aU,aV,az,aA,aB,aC⟩:=a0.sl.el (i:=2) Zs;obtain rfl:(((a).dot).count)-(((b).dot).count)=az:=Option.some.inj aA;refine jV (AI underlying185 ty3 rfl rfl aB Zs) ?_;refine jV (Dw (v:= .int .i64 ((((a).dot).count)-(((b).dot).count))) (y:=(((a).dot).count)-(((b).dot).count)) ty3 rfl aC rfl) ?_;refine jG ?_;refine jF ?_ ?_
   ·intro hc41
    refine jG ?_;refine jV (At (c:=3) (An rfl rfl Zd Zd) Zd) ?_;refine jG ?_;refine Aj.inLoop ?_;refine jG ?_;refine Aj.condF rfl ?_;refine jG ?_;refine jJ func145 ?_;exact⟨_,rfl,by unfold Ha D5 BL;(repeat' split)<;>first|rfl|omega,K0,G0⟩
   ·intro hc41
    refine jG ?_;refine jV (At (c:=3) (An rfl rfl Zd Zd) Zd) ?_;refine jG ?_;refine Aj.inLoop ?_;refine jG ?_;refine Aj.condF rfl ?_;refine jG ?_;refine jJ func145 ?_;exact⟨_,rfl,by unfold Ha D5 BL;(repeat' split)<;>first|rfl|omega,K0,G0⟩
  ·intro hc41
   refine jG ?_;refine jV (At (c:=2) (An rfl rfl Zd Zd) Zd) ?_;refine jG ?_;refine Aj.inLoop ?_;refine jG ?_;refine Ed ?_;refine Ds ?_;obtain⟨aW,aX,aD,aE,aF,aG⟩:=a0.sl.el (i:=2) Zs;obtain rfl:(((a).dot).count)-(((b).dot).count)=aD:=Option.some.inj aE;refine jV (AI underlying185 ty3 rfl rfl aF Zs) ?_;refine jV (Dw (v:= .int .i64 ((((a).dot).count)-(((b).dot).count))) (y:=(((a).dot).count)-(((b).dot).count)) ty3 rfl aG rfl) ?_;refine jG ?_;refine jF ?_ ?_
   ·intro hc41
    refine jG ?_;refine jV (At (c:=3) (An rfl rfl Zd Zd) Zd) ?_;refine jG ?_;refine Aj.inLoop ?_;refine jG ?_;refine Aj.condF rfl ?_;refine jG ?_;refine jJ func145 ?_;exact⟨_,rfl,by unfold Ha D5 BL;(repeat' split)<;>first|rfl|omega,K0,G0⟩
   ·intro hc41
    refine jG ?_;refine jV (At (c:=3) (An rfl rfl Zd Zd) Zd) ?_;refine jG ?_;refine Aj.inLoop ?_;refine jG ?_;refine Aj.condF rfl ?_;refine jG ?_;refine jJ func145 ?_;exact⟨_,rfl,by unfold Ha D5 BL;(repeat' split)<;>first|rfl|omega,K0,G0⟩
theorem V9 (a b:Ag)(w:World)(ha:FC a.dot)(hb:FC b.dot):Calls prog 145 #[.agg #[.string ((a).item),.int .i64 (((a).dot).node),.int .i64 (((a).dot).life),.int .i64 (((a).dot).count),.int .i64 ((a).qty),.int .u64 ((a).price)],.agg #[.string ((b).item),.int .i64 (((b).dot).node),.int .i64 (((b).dot).life),.int .i64 (((b).dot).count),.int .i64 ((b).qty),.int .u64 ((b).price)]] w (AS fun v w'=>v= .int .i64 (Ha a b)∧Aq w w'):=(Ul a b w ha hb).mono fun e w' ⟨v,h1,h2,h3,_⟩=>⟨v,h1,h2,h3⟩
theorem R7 (a b:Ag)(w:World):
  Calls prog 73 #[.agg #[.string ((a).item),.int .i64 (((a).dot).node),.int .i64 (((a).dot).life),.int .i64 (((a).dot).count),.int .i64 ((a).qty),.int .u64 ((a).price)],.agg #[.string ((b).item),.int .i64 (((b).dot).node),.int .i64 (((b).dot).life),.int .i64 (((b).dot).count),.int .i64 ((b).qty),.int .u64 ((b).price)]] w (AS (fun v w'=>v= .bool (decide (DQ b a))∧Aq w w')):=by
 refine Ae (n:=20) func73 rfl rfl rfl ?_;refine jG ?_;refine jR<|jB ?_;intro a4 a7 a2 a0 a5;have:w.heap.size≤a4:=a2;clear a2;have K0:=(a5:Aq w _);refine jR<|jB ?_;intro a8 a9 a1 aa a3;have ab:=Ai a0.lt a1;have:=Nat.le_trans K0.size a1;clear a1;replace a0:=a0.ext a3;refine jG ?_;refine jV (Lz rfl rfl) ?_;refine jG ?_;replace K0:=K0.ext a3;refine jF ?_ ?_
 ·intro hc9
  refine jG ?_;refine jV (V8 rfl rfl) ?_;refine jG ?_;refine jJ func73 ?_;exact⟨_,rfl,congrArg Value.bool (decide_eq_decide.2 ⟨fun h=>by unfold DQ;exact .inl h,fun h=>by unfold DQ at h;exact h.elim id (fun h2=>absurd h2.1.symm hc9)⟩),K0⟩
 ·intro hc9
  refine jG ?_;refine jR<|jC (Ld ((b).dot) ((a).dot) _) ?_;rintro _ ac ⟨rfl,a6⟩;refine jG ?_;refine jJ func73 ?_;replace K0:=K0.ext a6;exact⟨_,rfl,congrArg Value.bool (decide_eq_decide.2 ⟨fun h=>by unfold DQ;exact .inr ⟨hc9.symm,h⟩,fun h=>by unfold DQ at h;exact h.elim (fun h2=>absurd h2 (by rw[hc9];exact Ir _)) And.right⟩),K0⟩
theorem Ln (a:Option Addr)(es:List Ag)(c:Nat)(w:World)(hs:As w a es)(hl:es.length≤4294967295):
  Calls prog 74 #[.slice a es.length c] w (AS (fun v w'=>v= .int .i64 ((itemsN es:Nat):Int)∧Aq w w')):=by
 refine Ae (n:=30) func74 rfl rfl rfl ?_;refine jG ?_;refine Aj.loop (ι:=Nat) (fun i ρ' w'=>Holds ρ' [(0,.slice a es.length c),(3,.int .i64 ((itemsN (es.take i):Nat):Int)),(6,.slice a es.length c),(7,.int .i64 ((es.length:Nat):Int)),(8,.int .i64 ((i:Nat):Int))]∧Aq w w'∧(i≤es.length)) (fun i=>es.length-i) 0 ?_ ?_
 ·rw[ME]
  refine⟨⟨rfl,rfl,rfl,rfl,rfl,trivial⟩,(Ah.refl _ w),?_⟩
  ·omega
 rintro i ac ad ⟨a5,K0,hi⟩ ih1;obtain⟨ρ₀,rfl⟩:=a5.ex;clear a5;refine jG ?_;refine jF ?_ ?_
 ·intro hc9
  refine Ex ?_;obtain⟨ae,af,x,hx,a7,a1⟩:=hs.eo i;have hc_7_lt:=a1.lt;refine jV (AI underlying27 ty76 rfl rfl a7 Zl) ?_;replace a1:=a1.ext K0;refine jG ?_;refine jR<|jA ?_;intro ag ah a3 a0 a8;have ai:=Ai a1.lt a3;have:=Nat.le_trans K0.size a3;clear a3;refine jG ?_;refine jR<|jS a0 ?_;intro aj a0 a9;refine Ds ?_;replace K0:=(K0.ext a8).n1 a9;by_cases hB:i=0
  ·refine Aj.drawR ?_
   intro ak a6;refine Ex ?_;refine jD (Cq (Gk rfl rfl) Zi) ?_;refine jG ?_;refine jD (CI (b:=true) (e:=false) rfl rfl rfl) ?_;refine jG ?_;refine Ed ?_;have hle:=Gp es i;refine jG ?_;refine jV (At (c:=(((itemsN (es.take i))+1:Nat):Int)) (An rfl rfl Zo Zo) rfl) ?_;refine jG ?_;refine jV (At (c:=((i+1:Nat):Int)) (An rfl rfl Zo Zo) rfl) ?_;refine jG ?_;have e:=MC hx hB;refine ih1 (i+1) _ _ ?_ Zo;rw[e];replace a0:=a0.ext a6;replace K0:=K0.ext a6;refine⟨⟨rfl,rfl,rfl,rfl,rfl,trivial⟩,K0,?_⟩
   ·omega
  ·obtain⟨al,aa,y,hy,ab,a2⟩:=hs.el (i:=(((i:Nat):Int)-1).toNat) Zl
   have hc_25_lt:=a2.lt;refine Aj.drawR ?_;intro am a4;refine Ex ?_;refine jD (CW (Gk rfl rfl) Zi) ?_;refine jG ?_;refine jE ?_ (hx:=by exact fun hg=>(BE rfl rfl Zo Zo));refine jE ?_ (hx:=by exact fun hg=>(DG underlying27 ty76 rfl rfl ab Zo Zl));refine jE ?_ (hx:=by exact fun hg=>(D7 (o':=aa+(((i:Nat):Int)-1).toNat*6+0) underlying76 rfl ty9 rfl rfl rfl));replace a2:=(a2.ext K0).ext a4;refine jE ?_ (hx:=by exact fun hg=>(Ey ty9 rfl rfl (a2.field (i:=0) rfl)));replace a0:=a0.ext a4;refine jG ?_;refine jE ?_ (hx:=by exact fun hg=>(Lz rfl rfl));refine jD (Dh rfl rfl rfl) ?_;refine jG ?_;replace K0:=K0.ext a4;refine jF ?_ ?_
   ·intro hc25
    have hle:=Gp es i;refine jG ?_;refine jV (At (c:=(((itemsN (es.take i))+1:Nat):Int)) (An rfl rfl Zo Zo) rfl) ?_;refine jG ?_;refine jV (At (c:=((i+1:Nat):Int)) (An rfl rfl Zo Zo) rfl) ?_;refine jG ?_;have e:=NP hx Zo (by rw[←DV Zo];exact hy) hc25;refine ih1 (i+1) _ _ ?_ Zo;rw[e];refine⟨⟨rfl,rfl,rfl,rfl,rfl,trivial⟩,K0,?_⟩
    ·omega
   ·intro hc25
    refine jG ?_;refine jV (At (c:=((i+1:Nat):Int)) (An rfl rfl Zo Zo) rfl) ?_;refine jG ?_;have e:=MD hx Zo (by rw[←DV Zo];exact hy) hc25;refine ih1 (i+1) _ _ ?_ Zo;rw[e];refine⟨⟨rfl,rfl,rfl,rfl,rfl,trivial⟩,K0,?_⟩
    ·omega
 ·intro hc9
  refine jG ?_;refine jJ func74 ?_;exact⟨_,rfl,by rw[List.take_of_length_le Zo],K0⟩
end Go.Proofs.YtjkaicjmfgekjaaGreatDoor
namespace Go.Proofs.YtjkaicjmfgekjaaGreatDoor
open Go.Proofs.Tryz
attribute [local irreducible] RD RS Av RL RA RT CJ Aj
theorem Iu {l:List Ag}{x:Ag}{j:Nat}(hno:EF (fun y=>decide (y.dot=x.dot)) l j)(hj:l.length≤j):∀y∈l,y.dot≠x.dot:=fun y hy=>by
 obtain⟨q,hq,rfl⟩:=List.getElem_of_mem hy
 exact of_decide_eq_false (hno q _ Zo (List.getElem?_eq_getElem hq))
theorem Fv {ms:List Aa}{cl:List Ad}{es:List Ag}{x:Ag}{i:Nat}{e:Int}(h:B4 ms cl=true)(h2:es.length≤64)(h0:A0 ms cl es i=0)(hx:es[i]? =some x)(he:CQ ms cl (es.take i) x=e)(hn:e≠0):Bj ms cl es=e:=by
 rw[OX h h2 h0 hx (by rw[he];exact hn),he]
theorem H2 (ms:List Aa)(cl:List Ad)(es:List Ag):A0 ms cl es 0=0:=rfl
theorem OY {es:List Ag}{i:Nat}{x y:Ag}(hi:i≤es.length)(hy:es[i-1]? =some y)(h:DQ y x):∀z,(es.take i).getLast? =some z→DQ z x:=fun z hz=>by
 have e:=(EM hi hz).2
 rw[hy]at e;cases e;exact h
theorem R8 {es:List Ag}{i:Nat}{x:Ag}(hi:i≤es.length)(h:¬0<i):∀z,(es.take i).getLast? =some z→DQ z x:=fun z hz=>absurd (EM hi hz).1 h
def EN (es:List Ag):Prop:=∀x∈es,(0≤x.price∧x.price<18446744073709551616)∧x.item.size≤4294967295
theorem OZ {α:Type}{l:List α}{i:Nat}(h:i≤l.length):(l.take i).length=i:=by rw[List.length_take];omega
attribute [local irreducible] AE FC CC BS BL B2 B0 Du
attribute [local irreducible] DQ D5 itemsN CQ A0 Bj B4 Gr A6 Bw
attribute [local irreducible] X
theorem Vf (am:Option Addr)(ms:List Aa)(cm:Nat)(ac:Option Addr)(cl:List Ad)(cc:Nat)(ae:Option Addr)(es:List Ag)(ce:Nat)(i:Nat)(x0:Ag)(w:World)(hcap:es.length≤ce)(hs:As w am ms)(ht:As w ac cl)(hse:As w ae es)(hl:ms.length≤4294967295)(hl2:cl.length≤4294967295)(hl3:es.length≤4294967295)(hcan:B4 ms cl=true)(h0:A0 ms cl es i=0)(hx0:es[i]? =some x0)(hp:0≤x0.price∧x0.price<18446744073709551616):
  Calls prog 80 #[.agg #[.slice ae es.length ce,.slice am ms.length cm,.slice ac cl.length cc],.int .i64 ((i:Nat):Int)] w (AS (fun v w'=>v= .int .i64 (CQ ms cl (es.take i) x0)∧Aq w w')):=by
 have hil:=(List.getElem?_eq_some_iff.1 hx0).1;have hcx:=C5.1 hcan;have htl:=OZ (Nat.le_of_lt hil);refine Ae (n:=69) func80 rfl rfl rfl ?_;refine jG ?_;refine jR<|jB ?_;intro a8 aD ap a1 ay;have:w.heap.size≤a8:=ap;clear ap;have K0:=(ay:Aq w _);refine LO ?_;obtain⟨aE,aF,x,hx,az,a4⟩:=hse.eo i;have hc_9_lt:=a4.lt;refine jV (AI underlying27 ty76 rfl rfl az Zl) ?_;replace a4:=a4.ext K0;refine jG ?_;refine jR<|jA ?_;intro a5 aG a6 a0 aq;have aH:=Ai a1.lt a6;have aI:=Ai a4.lt a6;have:=Nat.le_trans K0.size a6;clear a6;refine jR<|jS a0 ?_;intro aJ a0 ar;obtain rfl:x=x0:=by rw[hx0]at hx;exact(Option.some.inj hx).symm
 clear hx;refine jG ?_;refine jR<|jC (V6 ((x).item) _) ?_;rintro _ aK ⟨rfl,a9⟩;refine jG ?_;replace a1:=((a1.ext aq).kp ar).ext a9;replace K0:=((K0.ext aq).n1 ar).ext a9;replace a0:=a0.ext a9;refine jF ?_ ?_
 ·intro hc13
  refine jG ?_;refine jJ func80 ?_;exact⟨_,rfl,by rw[HG hc13],K0⟩
 ·intro hc13
  refine jG ?_;refine jV (CI rfl rfl rfl) ?_;refine jG ?_;refine jF ?_ ?_
  ·intro hc18
   refine jG ?_;refine jJ func80 ?_;exact⟨_,rfl,by rw[Jm hc13 Zo],K0⟩
  ·intro hc18
   refine jG ?_;refine jR<|jC (Vd ((x).price) _ hp.1 hp.2) ?_;rintro _ aL ⟨rfl,aa⟩;refine jG ?_;replace a1:=a1.ext aa;replace a0:=a0.ext aa;replace K0:=K0.ext aa;refine jF ?_ ?_
   ·intro hc27
    refine jG ?_;refine jJ func80 ?_;exact⟨_,rfl,by rw[GG hc13 Zo hc27],K0⟩
   ·intro hc27
    refine Ds ?_;by_cases hA:B0 ms cl x.dot
    ·by_cases hB:0<i
     ·refine Aj.drawS [] [0,1001,2,1003,2004,5,6,7,8,9,10,1011,12,13,14,1016,2015,2017,18,19,20,21] ?_
      intro aM ab;replace a1:=a1.ext ab;replace a0:=a0.ext ab;refine jM (jb a1 (jb a0 Jn)) ?_;refine jG ?_;replace K0:=K0.ext ab;refine jU rfl<|jC (Ip am ms cm ac cl cc ((x).dot) _ (hs.ext K0) (ht.ext K0) Zo Zo) ?_;rintro _ aN ⟨rfl,ad⟩;replace a1:=a1.ext ad;replace a0:=a0.ext ad;refine Ds ?_;refine jP ?_ (hx:=by exact fun _=>(CW (Bo rfl) (by simp[hA])));refine FJ ?_;refine jQ ?_ (hx:=by exact fun _ hg=>(Cq (D6 rfl rfl) Zi));refine jG ?_;refine jQ ?_ (hx:=by exact fun _ hg=>(BE rfl rfl Zo Zo));obtain⟨aO,aP,y,hy,aA,a7⟩:=hse.el (i:=(((i:Nat):Int)-1).toNat) Zl;have hc_32_lt:=a7.lt;replace K0:=K0.ext ad;refine jQ ?_ (hx:=by exact fun _ hg=>(DG underlying27 ty76 rfl rfl aA Zo Zl));refine jG ?_;replace a7:=a7.ext K0;refine jX rfl<|jO (Dw (v:= .agg #[.string ((y).item),.int .i64 (((y).dot).node),.int .i64 (((y).dot).life),.int .i64 (((y).dot).count),.int .i64 ((y).qty),.int .u64 ((y).price)]) (y:=y) ty76 rfl a7 rfl) ?_;refine jG ?_;refine jX rfl<|jC (V9 y x _ (hcx.cov (firstE_all h0 _ y Zo hy).cov).sm (hcx.cov hA).sm) ?_;rintro _ aQ ⟨rfl,af⟩;replace a1:=a1.ext af;replace a0:=a0.ext af;refine jG ?_;refine jQ ?_ (hx:=by exact fun _ hg=>(Bv rfl rfl rfl));refine jP ?_ (hx:=by exact fun _=>(Dh rfl rfl rfl));refine jG ?_;replace K0:=K0.ext af;refine jF ?_ ?_
      ·intro hc32
       refine jG ?_;refine jJ func80 ?_;exact⟨_,rfl,by rw[CY hc13 Zo hc27 (.inr (.inl ⟨y,Fb hB (by rw[←DV Zo];exact hy),(TQ.1 hc32)⟩))],K0⟩
      ·intro hc32
       refine jG ?_;refine jV (Gl (m':=(es.take i).length) (BI underlying27 ty76 rfl rfl Zo) Zt) ?_;refine jG ?_;refine Aj.loop (ι:=Nat) (fun j ρ' w'=>Holds ρ' [(5,jp a5),(57,.slice ae ((es.take i).length) ce),(58,.int .i64 (((es.take i).length:Nat):Int)),(59,.int .i64 ((j:Nat):Int))]∧Aq w w'∧(AA w' a8 [.slice ae es.length ce,.slice am ms.length cm,.slice ac cl.length cc] 33)∧(AA w' a5 [.string ((x).item),.int .i64 (((x).dot).node),.int .i64 (((x).dot).life),.int .i64 (((x).dot).count),.int .i64 ((x).qty),.int .u64 ((x).price)] 76)∧(j≤(es.take i).length)∧(EF (fun y=>decide (y.dot=x.dot)) (es.take i) j)) (fun j=>(es.take i).length-j) 0 ?_ ?_
       ·refine⟨⟨rfl,rfl,rfl,rfl,trivial⟩,K0,a1,a0,?_,?_⟩
        ·omega
        ·exact EF.zero _ _
       clear a1 a0;clear K0;rintro j aR aS ⟨au,K0,a1,a0,hj,hno⟩ ih1;obtain⟨ρ₀,rfl⟩:=au.ex;clear au;refine jG ?_;refine jF ?_ ?_
       ·intro hc60
        obtain⟨aT,aU,z,hz,aV,aB⟩:=((hse.ext K0).take i).eo j;refine jG ?_;refine jR<|jA ?_;intro aW aX a2 av ag;have aY:=Ai a1.lt a2;have aZ:=Ai a0.lt a2;have b0:=Ai aB.lt a2;have:=Nat.le_trans K0.size a2;clear a2;refine jR<|jS av ?_;intro b1 av ah;replace a0:=(a0.ext ag).kp ah;refine jG ?_;refine jV (EC Zk rfl rfl (C9 ((z).dot) ((x).dot))) ?_;refine jG ?_;replace a1:=(a1.ext ag).kp ah;replace K0:=(K0.ext ag).n1 ah;refine jF ?_ ?_
        ·intro hc67
         refine jG ?_;refine jJ func80 ?_;exact⟨_,rfl,by rw[CY hc13 Zo hc27 (.inr (.inr ⟨z,Bc hz,hc67⟩))],K0⟩
        ·intro hc67
         refine jG ?_;refine jV (At (c:=((j+1:Nat):Int)) (An rfl rfl Zo Zo) rfl) ?_;refine jG ?_;refine ih1 (j+1) _ _ ?_ Zo;refine⟨⟨rfl,rfl,rfl,rfl,trivial⟩,K0,a1,a0,?_,?_⟩
         ·omega
         ·exact hno.step hz (decide_eq_false hc67)
       ·intro hc60
        refine jG ?_;refine jJ func80 ?_;exact⟨_,rfl,by rw[Hc hc13 Zo hc27 hA (OY Zo (by rw[←DV Zo];exact hy) (Eb.1 Zo)) (Iu hno Zo)],K0⟩
     ·refine Aj.drawS [] [0,1001,2,1003,2004,5,6,7,8,9,10,11,12,13,14,15,16,2017,18,19,20,21] ?_
      intro b2 ai;replace a1:=a1.ext ai;replace a0:=a0.ext ai;refine jM (jb a1 (jb a0 Jn)) ?_;refine jG ?_;replace K0:=K0.ext ai;refine jU rfl<|jC (Ip am ms cm ac cl cc ((x).dot) _ (hs.ext K0) (ht.ext K0) Zo Zo) ?_;rintro _ b3 ⟨rfl,aj⟩;replace a1:=a1.ext aj;replace a0:=a0.ext aj;refine Ds ?_;refine jP ?_ (hx:=by exact fun _=>(CW (Bo rfl) (by simp[hA])));refine FJ ?_;refine jQ ?_ (hx:=by exact fun _ hg=>(CW (D6 rfl rfl) Zi));refine jG ?_;refine jY ?_;refine jG ?_;refine jQ ?_ (hx:=by exact fun _ hg=>(AJ (b:=false) (e:=false) rfl rfl rfl));refine jP ?_ (hx:=by exact fun _=>(Dh rfl rfl rfl));refine jG ?_;refine Aj.condF rfl ?_;refine jG ?_;refine jV (Gl (m':=(es.take i).length) (BI underlying27 ty76 rfl rfl Zo) Zt) ?_;refine jG ?_;replace K0:=K0.ext aj;refine Aj.loop (ι:=Nat) (fun j ρ' w'=>Holds ρ' [(5,jp a5),(57,.slice ae ((es.take i).length) ce),(58,.int .i64 (((es.take i).length:Nat):Int)),(59,.int .i64 ((j:Nat):Int))]∧Aq w w'∧(AA w' a8 [.slice ae es.length ce,.slice am ms.length cm,.slice ac cl.length cc] 33)∧(AA w' a5 [.string ((x).item),.int .i64 (((x).dot).node),.int .i64 (((x).dot).life),.int .i64 (((x).dot).count),.int .i64 ((x).qty),.int .u64 ((x).price)] 76)∧(j≤(es.take i).length)∧(EF (fun y=>decide (y.dot=x.dot)) (es.take i) j)) (fun j=>(es.take i).length-j) 0 ?_ ?_
      ·refine⟨⟨rfl,rfl,rfl,rfl,trivial⟩,K0,a1,a0,?_,?_⟩
       ·omega
       ·exact EF.zero _ _
      clear a1 a0;clear K0;rintro j b4 b5 ⟨aw,K0,a1,a0,hj,hno⟩ ih2;obtain⟨ρ₀,rfl⟩:=aw.ex;clear aw;refine jG ?_;refine jF ?_ ?_
      ·intro hc60
       obtain⟨b6,b7,z,hz,b8,aC⟩:=((hse.ext K0).take i).eo j;refine jG ?_;refine jR<|jA ?_;intro b9 ba a3 ax ak;have bb:=Ai a1.lt a3;have bc:=Ai a0.lt a3;have be:=Ai aC.lt a3;have:=Nat.le_trans K0.size a3;clear a3;refine jR<|jS ax ?_;intro bg ax al;replace a0:=(a0.ext ak).kp al;refine jG ?_;refine jV (EC Zk rfl rfl (C9 ((z).dot) ((x).dot))) ?_;refine jG ?_;replace a1:=(a1.ext ak).kp al;replace K0:=(K0.ext ak).n1 al;refine jF ?_ ?_
       ·intro hc67
        refine jG ?_;refine jJ func80 ?_;exact⟨_,rfl,by rw[CY hc13 Zo hc27 (.inr (.inr ⟨z,Bc hz,hc67⟩))],K0⟩
       ·intro hc67
        refine jG ?_;refine jV (At (c:=((j+1:Nat):Int)) (An rfl rfl Zo Zo) rfl) ?_;refine jG ?_;refine ih2 (j+1) _ _ ?_ Zo;refine⟨⟨rfl,rfl,rfl,rfl,trivial⟩,K0,a1,a0,?_,?_⟩
        ·omega
        ·exact hno.step hz (decide_eq_false hc67)
      ·intro hc60
       refine jG ?_;refine jJ func80 ?_;exact⟨_,rfl,by rw[Hc hc13 Zo hc27 hA (R8 Zo hB) (Iu hno Zo)],K0⟩
    ·refine Aj.drawS [] [0,1001,2,1003,2004,5,6,7,8,9,10,11,12,13,14,15,16,2017,18,19,20,21] ?_
     intro bh an;replace a1:=a1.ext an;replace a0:=a0.ext an;refine jM (jb a1 (jb a0 Jn)) ?_;refine jG ?_;replace K0:=K0.ext an;refine jU rfl<|jC (Ip am ms cm ac cl cc ((x).dot) _ (hs.ext K0) (ht.ext K0) Zo Zo) ?_;rintro _ bi ⟨rfl,ao⟩;replace a1:=a1.ext ao;replace a0:=a0.ext ao;refine Ds ?_;refine jP ?_ (hx:=by exact fun _=>(Cq (Bo rfl) (by simp[hA])));refine jG ?_;refine jY ?_;refine jG ?_;refine jP ?_ (hx:=by exact fun _=>(CI (b:=true) (e:=false) rfl rfl rfl));refine jG ?_;refine Ed ?_;refine jG ?_;refine jJ func80 ?_;replace K0:=K0.ext ao;exact⟨_,rfl,by rw[CY hc13 Zo hc27 (.inl hA)],K0⟩
theorem Um (am:Option Addr)(ms:List Aa)(cm:Nat)(ac:Option Addr)(cl:List Ad)(cc:Nat)(ae:Option Addr)(es:List Ag)(ce:Nat)(w:World)(hcap:es.length≤ce)(hs:As w am ms)(ht:As w ac cl)(hse:As w ae es)(hl:ms.length≤4294967295)(hl2:cl.length≤4294967295)(hl3:es.length≤4294967295)(hb:EN es):
  Calls prog 26 #[.agg #[.slice ae es.length ce,.slice am ms.length cm,.slice ac cl.length cc]] w (AS (fun v w'=>v= .int .i64 (Bj ms cl es)∧Aq w w')):=by
 refine Ae (n:=80) func26 rfl rfl rfl ?_;refine jG ?_;refine jR<|jB ?_;intro a2 aH aq a0 aB;have:w.heap.size≤a2:=aq;clear aq;have K0:=(aB:Aq w _);refine jG ?_;refine jR<|jC (Rx am ms cm ac cl cc _ (hs.ext K0) (ht.ext K0) Zo Zo) ?_;rintro _ aI ⟨rfl,ar⟩;refine jG ?_;replace a0:=a0.ext ar;replace K0:=K0.ext ar;refine jF ?_ ?_
 ·intro hc10
  refine jG ?_;refine jJ func26 ?_;exact⟨_,rfl,by rw[Jo hc10],K0⟩
 ·intro hc10
  have hcan:B4 ms cl=true:=by simpa using hc10
  refine jG ?_;refine jF ?_ ?_
  ·intro hc14
   refine jG ?_;refine jJ func26 ?_;exact⟨_,rfl,by rw[HH hcan Zo],K0⟩
  ·intro hc14
   refine jG ?_;refine Aj.loop (ι:=Nat) (fun i ρ' w'=>Holds ρ' [(1,jp a2),(16,.slice ae es.length ce),(17,.int .i64 ((es.length:Nat):Int)),(18,.int .i64 ((i:Nat):Int))]∧Aq w w'∧(AA w' a2 [.slice ae es.length ce,.slice am ms.length cm,.slice ac cl.length cc] 33)∧(i≤es.length)∧(A0 ms cl es i=0)) (fun i=>es.length-i) 0 ?_ ?_
   ·refine⟨⟨rfl,rfl,rfl,rfl,trivial⟩,K0,a0,?_,?_⟩
    ·omega
    ·exact H2 _ _ _
   clear a0;clear K0;rintro i aJ aK ⟨au,K0,a0,hi,h0⟩ ih1;obtain⟨ρ₀,rfl⟩:=au.ex;clear au;refine jG ?_;refine jF ?_ ?_
   ·intro hc19
    refine Ex ?_;obtain⟨aL,aM,x,hx,aC,a5⟩:=hse.eo i;have hc_14_lt:=a5.lt;refine jV (AI underlying27 ty76 rfl rfl aC Zl) ?_;replace a5:=a5.ext K0;refine jG ?_;refine jR<|jA ?_;intro a6 aN a7 a1 av;have aO:=Ai a0.lt a7;have aP:=Ai a5.lt a7;have:=Nat.le_trans K0.size a7;clear a7;refine jG ?_;refine jR<|jS a1 ?_;intro aQ a1 aw;have hcx:=C5.1 hcan;have htl:=OZ (l:=es) (i:=i) Zo;have hnm:=(hb x (Bc hx)).2;refine jG ?_;refine jR<|jC (Iq _ _ Zo) ?_;rintro _ aR ⟨rfl,a9⟩;refine jG ?_;replace a0:=((a0.ext av).kp aw).ext a9;replace K0:=((K0.ext av).n1 aw).ext a9;replace a1:=a1.ext a9;refine jF ?_ ?_
    ·intro hc23
     refine jG ?_;refine jJ func26 ?_;exact⟨_,rfl,by rw[Fv hcan Zo h0 hx (HG hc23) Zd],K0⟩
    ·intro hc23
     refine jG ?_;refine jR<|jC (WD _ _ _) ?_;rintro _ aS ⟨rfl,aa⟩;refine jG ?_;replace a0:=a0.ext aa;replace a1:=a1.ext aa;replace K0:=K0.ext aa;refine jF ?_ ?_
     ·intro hc28
      refine jG ?_;refine jJ func26 ?_;exact⟨_,rfl,by rw[Fv hcan Zo h0 hx (Jm hc23 Zo) Zd],K0⟩
     ·intro hc28
      refine jG ?_;refine jR<|jC (R4 _ _) ?_;rintro _ aT ⟨rfl,ab⟩;refine jG ?_;replace a0:=a0.ext ab;replace a1:=a1.ext ab;replace K0:=K0.ext ab;refine jF ?_ ?_
      ·intro hc33
       refine jG ?_;refine jJ func26 ?_;exact⟨_,rfl,by rw[Fv hcan Zo h0 hx (GG hc23 Zo hc33) Zd],K0⟩
      ·intro hc33
       refine Ds ?_;by_cases hA:B0 ms cl x.dot
       ·by_cases hB:0<i
        ·refine Aj.drawS [] [0,1001,2,1003,2004,5,6,7,8,9,1010,11,1012,13,14,15,2016,2017,18,19,20,21] ?_
         intro aU ad;replace a0:=a0.ext ad;replace a1:=a1.ext ad;refine jM (jb a0 (jb a1 Jn)) ?_;refine jG ?_;replace K0:=K0.ext ad;refine jU rfl<|jC (G3 am ms cm ac cl cc ((x).dot) _ (hs.ext K0) (ht.ext K0) Zo Zo) ?_;rintro _ aV ⟨rfl,af⟩;replace a0:=a0.ext af;replace a1:=a1.ext af;refine Ds ?_;refine jP ?_ (hx:=by exact fun _=>(CW (Bo rfl) (by rw[decide_eq_true (hcx.covR.2 hA)];rfl)));refine FJ ?_;refine jQ ?_ (hx:=by exact fun _ hg=>(Cq (D6 rfl rfl) Zi));refine jG ?_;refine jQ ?_ (hx:=by exact fun _ hg=>(BE rfl rfl Zo Zo));obtain⟨aW,aX,y,hy,aD,a8⟩:=hse.el (i:=(((i:Nat):Int)-1).toNat) Zl;have hc_39_lt:=a8.lt;replace K0:=K0.ext af;refine jQ ?_ (hx:=by exact fun _ hg=>(DG underlying27 ty76 rfl rfl aD Zo Zl));replace a8:=a8.ext K0;refine jX rfl<|jO (Dw (v:= .agg #[.string ((y).item),.int .i64 (((y).dot).node),.int .i64 (((y).dot).life),.int .i64 (((y).dot).count),.int .i64 ((y).qty),.int .u64 ((y).price)]) (y:=y) ty76 rfl a8 rfl) ?_;refine jG ?_;refine jX rfl<|jC (R7 x y _) ?_;rintro _ aY ⟨rfl,ag⟩;replace a0:=a0.ext ag;replace a1:=a1.ext ag;refine jG ?_;refine jQ ?_ (hx:=by exact fun _ hg=>(Bv rfl rfl rfl));refine jP ?_ (hx:=by exact fun _=>(Dh rfl rfl rfl));refine jG ?_;replace K0:=K0.ext ag;refine jF ?_ ?_
         ·intro hc38
          refine jG ?_;refine jJ func26 ?_;exact⟨_,rfl,by rw[Fv hcan Zo h0 hx (CY hc23 Zo hc33 (.inr (.inl ⟨y,Fb hB (by rw[←DV Zo];exact hy),hc38⟩))) Zd],K0⟩
         ·intro hc38
          refine jG ?_;refine jV (Gl (m':=(es.take i).length) (BI underlying27 ty76 rfl rfl Zo) Zt) ?_;refine jG ?_;refine Aj.loop (ι:=Nat) (fun j ρ' w'=>Holds ρ' [(1,jp a2),(4,jp a6),(16,.slice ae es.length ce),(17,.int .i64 ((es.length:Nat):Int)),(18,.int .i64 ((i:Nat):Int)),(19,.bool (decide (((i:Nat):Int)<((es.length:Nat):Int)))),(63,.slice ae ((es.take i).length) ce),(64,.int .i64 (((es.take i).length:Nat):Int)),(65,.int .i64 ((j:Nat):Int))]∧Aq w w'∧(AA w' a2 [.slice ae es.length ce,.slice am ms.length cm,.slice ac cl.length cc] 33)∧(AA w' a6 [.string ((x).item),.int .i64 (((x).dot).node),.int .i64 (((x).dot).life),.int .i64 (((x).dot).count),.int .i64 ((x).qty),.int .u64 ((x).price)] 76)∧(j≤(es.take i).length)∧(EF (fun y=>decide (y.dot=x.dot)) (es.take i) j)) (fun j=>(es.take i).length-j) 0 ?_ ?_
          ·refine⟨⟨rfl,rfl,rfl,rfl,rfl,rfl,rfl,rfl,rfl,trivial⟩,K0,a0,a1,?_,?_⟩
           ·omega
           ·exact EF.zero _ _
          clear a0 a1;clear K0;rintro j aZ b0 ⟨ax,K0,a0,a1,hj,hno⟩ ih2;obtain⟨ρ₀,rfl⟩:=ax.ex;clear ax;refine jG ?_;refine jF ?_ ?_
          ·intro hc66
           obtain⟨b1,b2,z,hz,b3,aE⟩:=((hse.ext K0).take i).eo j;refine jG ?_;refine jR<|jA ?_;intro b4 b5 a3 ay ah;have b6:=Ai a0.lt a3;have b7:=Ai a1.lt a3;have b8:=Ai aE.lt a3;have:=Nat.le_trans K0.size a3;clear a3;refine jR<|jS ay ?_;intro b9 ay ai;replace a1:=(a1.ext ah).kp ai;refine jG ?_;refine jV (EC Zk rfl rfl (C9 ((z).dot) ((x).dot))) ?_;refine jG ?_;replace a0:=(a0.ext ah).kp ai;replace K0:=(K0.ext ah).n1 ai;refine jF ?_ ?_
           ·intro hc73
            refine jG ?_;refine jJ func26 ?_;exact⟨_,rfl,by rw[Fv hcan Zo h0 hx (CY hc23 Zo hc33 (.inr (.inr ⟨z,Bc hz,hc73⟩))) Zd],K0⟩
           ·intro hc73
            refine jG ?_;refine jV (At (c:=((j+1:Nat):Int)) (An rfl rfl Zo Zo) rfl) ?_;refine jG ?_;refine ih2 (j+1) _ _ ?_ Zo;refine⟨⟨rfl,rfl,rfl,rfl,rfl,rfl,rfl,rfl,rfl,trivial⟩,K0,a0,a1,?_,?_⟩
            ·omega
            ·exact hno.step hz (decide_eq_false hc73)
          ·intro hc66
           refine jG ?_;refine jV (At (c:=((i+1:Nat):Int)) (An rfl rfl Zo Zo) rfl) ?_;refine jG ?_;refine ih1 (i+1) _ _ ?_ Zo;refine⟨⟨rfl,rfl,rfl,rfl,trivial⟩,K0,a0,?_,?_⟩
           ·omega
           ·exact EG h0 hx (Hc hc23 Zo hc33 hA (OY Zo (by rw[←DV Zo];exact hy) hc38) (Iu hno Zo))
        ·refine Aj.drawS [] [0,1001,2,1003,2004,5,6,7,8,9,10,11,12,13,14,15,16,2017,18,19,20,21] ?_
         intro ba aj;replace a0:=a0.ext aj;replace a1:=a1.ext aj;refine jM (jb a0 (jb a1 Jn)) ?_;refine jG ?_;replace K0:=K0.ext aj;refine jU rfl<|jC (G3 am ms cm ac cl cc ((x).dot) _ (hs.ext K0) (ht.ext K0) Zo Zo) ?_;rintro _ bb ⟨rfl,ak⟩;replace a0:=a0.ext ak;replace a1:=a1.ext ak;refine Ds ?_;refine jP ?_ (hx:=by exact fun _=>(CW (Bo rfl) (by rw[decide_eq_true (hcx.covR.2 hA)];rfl)));refine FJ ?_;refine jQ ?_ (hx:=by exact fun _ hg=>(CW (D6 rfl rfl) Zi));refine jG ?_;refine jY ?_;refine jG ?_;refine jQ ?_ (hx:=by exact fun _ hg=>(AJ (b:=false) (e:=false) rfl rfl rfl));refine jP ?_ (hx:=by exact fun _=>(Dh rfl rfl rfl));refine jG ?_;refine Aj.condF rfl ?_;refine jG ?_;refine jV (Gl (m':=(es.take i).length) (BI underlying27 ty76 rfl rfl Zo) Zt) ?_;refine jG ?_;replace K0:=K0.ext ak;refine Aj.loop (ι:=Nat) (fun j ρ' w'=>Holds ρ' [(1,jp a2),(4,jp a6),(16,.slice ae es.length ce),(17,.int .i64 ((es.length:Nat):Int)),(18,.int .i64 ((i:Nat):Int)),(19,.bool (decide (((i:Nat):Int)<((es.length:Nat):Int)))),(63,.slice ae ((es.take i).length) ce),(64,.int .i64 (((es.take i).length:Nat):Int)),(65,.int .i64 ((j:Nat):Int))]∧Aq w w'∧(AA w' a2 [.slice ae es.length ce,.slice am ms.length cm,.slice ac cl.length cc] 33)∧(AA w' a6 [.string ((x).item),.int .i64 (((x).dot).node),.int .i64 (((x).dot).life),.int .i64 (((x).dot).count),.int .i64 ((x).qty),.int .u64 ((x).price)] 76)∧(j≤(es.take i).length)∧(EF (fun y=>decide (y.dot=x.dot)) (es.take i) j)) (fun j=>(es.take i).length-j) 0 ?_ ?_
         ·refine⟨⟨rfl,rfl,rfl,rfl,rfl,rfl,rfl,rfl,rfl,trivial⟩,K0,a0,a1,?_,?_⟩
          ·omega
          ·exact EF.zero _ _
         clear a0 a1;clear K0;rintro j bc be ⟨az,K0,a0,a1,hj,hno⟩ ih3;obtain⟨ρ₀,rfl⟩:=az.ex;clear az;refine jG ?_;refine jF ?_ ?_
         ·intro hc66
          obtain⟨bg,bh,z,hz,bi,aF⟩:=((hse.ext K0).take i).eo j;refine jG ?_;refine jR<|jA ?_;intro bj bk a4 aA al;have bl:=Ai a0.lt a4;have bm:=Ai a1.lt a4;have bn:=Ai aF.lt a4;have:=Nat.le_trans K0.size a4;clear a4;refine jR<|jS aA ?_;intro bo aA an;replace a1:=(a1.ext al).kp an;refine jG ?_;refine jV (EC Zk rfl rfl (C9 ((z).dot) ((x).dot))) ?_;refine jG ?_;replace a0:=(a0.ext al).kp an;replace K0:=(K0.ext al).n1 an;refine jF ?_ ?_
          ·intro hc73
           refine jG ?_;refine jJ func26 ?_;exact⟨_,rfl,by rw[Fv hcan Zo h0 hx (CY hc23 Zo hc33 (.inr (.inr ⟨z,Bc hz,hc73⟩))) Zd],K0⟩
          ·intro hc73
           refine jG ?_;refine jV (At (c:=((j+1:Nat):Int)) (An rfl rfl Zo Zo) rfl) ?_;refine jG ?_;refine ih3 (j+1) _ _ ?_ Zo;refine⟨⟨rfl,rfl,rfl,rfl,rfl,rfl,rfl,rfl,rfl,trivial⟩,K0,a0,a1,?_,?_⟩
           ·omega
           ·exact hno.step hz (decide_eq_false hc73)
         ·intro hc66
          refine jG ?_;refine jV (At (c:=((i+1:Nat):Int)) (An rfl rfl Zo Zo) rfl) ?_;refine jG ?_;refine ih1 (i+1) _ _ ?_ Zo;refine⟨⟨rfl,rfl,rfl,rfl,trivial⟩,K0,a0,?_,?_⟩
          ·omega
          ·exact EG h0 hx (Hc hc23 Zo hc33 hA (R8 Zo hB) (Iu hno Zo))
       ·refine Aj.drawS [] [0,1001,2,1003,2004,5,6,7,8,9,10,11,12,13,14,15,16,2017,18,19,20,21] ?_
        intro bp ao;replace a0:=a0.ext ao;replace a1:=a1.ext ao;refine jM (jb a0 (jb a1 Jn)) ?_;refine jG ?_;replace K0:=K0.ext ao;refine jU rfl<|jC (G3 am ms cm ac cl cc ((x).dot) _ (hs.ext K0) (ht.ext K0) Zo Zo) ?_;rintro _ bq ⟨rfl,ap⟩;replace a0:=a0.ext ap;replace a1:=a1.ext ap;refine Ds ?_;refine jP ?_ (hx:=by exact fun _=>(Cq (Bo rfl) (by rw[decide_eq_false (fun h_=>hA (hcx.covR.1 h_))];rfl)));refine jG ?_;refine jY ?_;refine jG ?_;refine jP ?_ (hx:=by exact fun _=>(CI (b:=true) (e:=false) rfl rfl rfl));refine jG ?_;refine Ed ?_;refine jG ?_;refine jJ func26 ?_;replace K0:=K0.ext ap;exact⟨_,rfl,by rw[Fv hcan Zo h0 hx (CY hc23 Zo hc33 (.inl hA)) Zd],K0⟩
   ·intro hc19
    refine jG ?_;refine jR<|jC (Ln _ es _ _ (hse.ext K0) Zo) ?_;rintro _ bs ⟨rfl,aG⟩;refine jG ?_;replace K0:=K0.ext aG;refine jF ?_ ?_
    ·intro hc79
     refine jG ?_;refine jJ func26 ?_;exact⟨_,rfl,by rw[HI hcan Zo (by rw[←(show i=es.length by omega)];exact h0) Zo],K0⟩
    ·intro hc79
     refine jG ?_;refine jJ func26 ?_;exact⟨_,rfl,by rw[It hcan Zo (by rw[←(show i=es.length by omega)];exact h0) Zo],K0⟩
end Go.Proofs.YtjkaicjmfgekjaaGreatDoor
