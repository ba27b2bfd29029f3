/-
  Cl, Cm, Cn
-/
import Derived.Test.YtocgdeefgohdhaaGreatRows
import Derived.Test.YtocgdeefgohdhaaGreatPqCk
import Derived.Test.YtocgdeefgohdhaaGreatPqRune
import Derived.Laws.RangeString
import Derived.Shelf.Small.Strs
import Derived.Test.YtocgdeefgohdhaaGreatPqI
set_option linter.all false
set_option maxRecDepth 100000
set_option maxHeartbeats 4000000
namespace Go.Proofs.YtocgdeefgohdhaaGreat
open Go.Proofs.Tryz
attribute [local irreducible] RD RS AD RL RA RT BH Al
section
open Ieee Ieee.Format
def B2 (b:Int):Prop:=b≤9218868437227405312∨b=9223372036854775808
instance (b :Int):Decidable (B2 b):=by unfold B2;infer_instance
theorem QB (x:Int):(some (compare x 0)=some Ordering.gt∨some (compare x 0)=some Ordering.eq)↔0≤x:=by
 have e:compare x 0=if x<0 then .lt else if x=0 then .eq else .gt:=by simp only[compare,compareOfLessAndEq]
 rw[e]
 by_cases h1:x<0
 ·simp[h1]
 ·by_cases h2:x=0
  ·simp[h2]
  ·simp[h1,h2];omega
theorem S2 (k:Nat):signed false 0 k=0:=by simp[signed]
theorem TG (m k:Nat):0≤signed false m k:=by simp only[signed,Bool.false_eq_true,if_false];exact Int.natCast_nonneg _
theorem TH (m k:Nat):0≤signed true m k↔m=0:=by
 simp only[signed,if_true]
 have h:m<<<k=m*2^k:=Nat.shiftLeft_eq m k
 constructor
 ·intro h1
  have h2:m*2^k=0:=by omega
  rcases Nat.mul_eq_zero.1 h2 with h3|h3
  ·exact h3
  ·exact absurd h3 (Nat.ne_of_gt (Nat.two_pow_pos k))
 ·rintro rfl;simp
theorem read_zero :Ieee.double.read 0= .number false 0 Ieee.double.leastPlace:=by decide+kernel
theorem KP {b:Nat}(hb:b<18446744073709551616):(Ieee.double.order b 0=some .gt∨Ieee.double.order b 0=some .eq)↔B2 b:=by
 have e1:Ieee.double.signWeight=9223372036854775808:=by decide+kernel
 have e2:Ieee.double.binade=4503599627370496:=by decide+kernel
 have e3:Ieee.double.infRung=9218868437227405312:=by decide+kernel
 unfold Format.order B2
 rw[read_zero]
 unfold Format.read
 simp only[e1,e2,e3]
 by_cases hs:b<9223372036854775808
 ·have hn:(b/9223372036854775808%2==1)=false:=by simp;omega
  have hr:b%9223372036854775808=b:=Nat.mod_eq_of_lt hs
  rw[hn,hr]
  split
  ·simp only[Datum.order,S2,QB,TG,true_iff];omega
  ·split
   ·simp only[Datum.order,S2,QB,TG,true_iff];omega
   ·split
    ·simp[Datum.order];omega
    ·simp[Datum.order];omega
 ·have hn:(b/9223372036854775808%2==1)=true:=by simp;omega
  have hr:b%9223372036854775808=b-9223372036854775808:=by omega
  rw[hn,hr]
  split
  ·simp only[Datum.order,S2,QB,TH];omega
  ·split
   ·simp only[Datum.order,S2,QB,TH];omega
   ·split
    ·simp[Datum.order];omega
    ·simp[Datum.order];omega
theorem SD {P:Program}{n:FN}{ρ:A5}{w:World}{dst:Option Nat}{ty:TypeId}{pos:String}{af:Array Edge}{g:Option (Nat×Bool)}{t t':TypeId}{x y:Operand}{b:Int}(h0:0≤b)(h1:b<18446744073709551616)(hx:rd n ρ x= .float .f64 b.toNat)(hy:rd n ρ y= .float .f64 0):
  X P n ρ ⟨dst,.binOp .geq t x y t',ty,pos,af,g⟩ w (.bool (decide (B2 b))) w:=by
 have h:=KP (b:=b.toNat) Zo
 rw[Int.toNat_of_nonneg h0]at h
 have e:(Ieee.double.order b.toNat 0==some .gt||Ieee.double.order b.toNat 0==some .eq)=decide (B2 b):=by
  rw[Bool.eq_iff_iff,Bool.or_eq_true,beq_iff_eq,beq_iff_eq,decide_eq_true_eq];exact h
 rw[←e]
 simp[X,execOp,hx,hy,eqGuard,binOp,Op.floatCmp,FloatKind.format]
end
def G4 (c:UInt8):Bool:=decide (¬(97≤(c.toNat:Int)∧(c.toNat:Int)≤122)∧¬(65≤(c.toNat:Int)∧(c.toNat:Int)≤90)∧¬(48≤(c.toNat:Int)∧(c.toNat:Int)≤57)∧(c.toNat:Int)≠46∧(c.toNat:Int)≠45∧(c.toNat:Int)≠95)
def Cp (s:ByteArray):Bool:=decide (s≠⟨#[]⟩∧s.size≤32)&& !(s.data.toList.any G4)
theorem O9 {s:ByteArray}(h:¬(s≠⟨#[]⟩∧s.size≤32)):Cp s=false:=by rw[Cp,decide_eq_false h];rfl
theorem NL {s:ByteArray}{i:Nat}{c:UInt8}(hx:s.data.toList[i]? =some c)(h:G4 c=true):Cp s=false:=by rw[Cp,LC hx h];simp
theorem NM {s:ByteArray}{i:Nat}(h:s≠⟨#[]⟩∧s.size≤32)(hno:Ep G4 s.data.toList i)(hi:s.data.toList.length≤i):Cp s=true:=by rw[Cp,LD hno hi,decide_eq_true h];rfl
def Hx (r:Nat):Bool:=decide (¬(97≤r∧r≤122)∧¬(65≤r∧r≤90)∧¬(48≤r∧r≤57)∧r≠46∧r≠45∧r≠95)
theorem set_ascii :∀n:Fin 128,(0≤Lib.indexByte [45,95,46] (IntKind.u8.wrap ((n.1:Nat):Int)).toNat.toUInt8↔(n.1=45∨n.1=95∨n.1=46)):=by decide+kernel
theorem RR {r:Int}(h0:0≤r)(h:r<128):0≤Lib.indexByte ((⟨#[45,95,46]⟩:ByteArray).data.toList) (IntKind.u8.wrap r).toNat.toUInt8↔r=45∨r=95∨r=46:=by
 have:=set_ascii ⟨r.toNat,by omega⟩
 simp only[Int.toNat_of_nonneg h0]at this
 rw[show(⟨#[45,95,46]⟩:ByteArray).data.toList=[45,95,46]from rfl,this]
 omega
theorem set_far :∀c:UInt8,128≤c.toNat→(Lib.indexByte [46] c= -1∧Lib.indexByte [] c= -1):=by
 have:∀n:Fin 256,128≤(UInt8.ofNat n.1).toNat→(Lib.indexByte [46] (UInt8.ofNat n.1)= -1∧Lib.indexByte [] (UInt8.ofNat n.1)= -1):=by decide+kernel
 intro c hc
 have h:=this ⟨c.toNat,c.toNat_lt⟩
 simp only[UInt8.ofNat_toNat]at h
 exact h hc
theorem Pa {m:Nat}{c:UInt8}(h1:1≤m)(h3:m<3)(hc:128≤c.toNat):Lib.indexByte ((⟨#[45,95,46]⟩:ByteArray).extract (m+1) (⟨#[45,95,46]⟩:ByteArray).size).data.toList (c.toNat:Int).toNat.toUInt8= -1:=by
 have e:(c.toNat:Int).toNat.toUInt8=c:=by simp[Nat.toUInt8]
 rw[e]
 have h:=set_far c hc
 rcases (show m=1∨m=2 by omega)with rfl|rfl
 ·exact h.1
 ·exact h.2
theorem Pb {m:Nat}(h1:1≤m)(h3:m<3):∃d:UInt8,(⟨#[45,95,46]⟩:ByteArray).data.toList[m]? =some d∧d.toNat<128:=by
 rcases (show m=1∨m=2 by omega)with rfl|rfl
 ·exact⟨95,rfl,by decide⟩
 ·exact⟨46,rfl,by decide⟩
theorem In (r:Int):Utf8.valid r=(decide (0≤r)&&decide (r<55296)||decide (57344≤r)&&decide (r≤1114111)):=rfl
theorem JW {P:Program}{f:FuncId}{a:Array Value}{w:World}{v:Value}(h:Calls P f a w fun e w'=>e= .returned v∧w'=w):Calls P f a w (AU fun x w'=>x=v∧w=w'):=h.mono fun e w' ⟨h1,h2⟩=>⟨_,h1,rfl,h2.symm⟩
theorem NN {w w':World}(h:RowKit.Below w.heap.size w w'):As w w':=⟨h.os,h.tape,h.output,h.size,fun k hk _=>h.block k hk⟩
theorem NO (s : ByteArray) : Lib.idxFunc Hx true s < 0 ↔ s.data.toList.any G4 = false := by
  have key : ∀ (f p : Nat), p + f = s.size → (Lib.idxFuncFrom Hx true s f p < 0 ↔ (s.data.toList.drop p).any G4 = false) := by
    intro f
    induction f with
    | zero =>
      intro p hp
      rw [List.drop_eq_nil_of_le (by rw [JF]; omega)]
      simp [Lib.idxFuncFrom]
    | succ f ih =>
      intro p hp
      have hps : p < s.size := by omega
      have hpl : p < s.data.toList.length := by rw [JF]; exact hps
      obtain ⟨c, hc⟩ := Q6 s hps
      have hcg : s[p]'hps = c := by
        obtain ⟨h1, h2⟩ := List.getElem?_eq_some_iff.1 hc
        rw [← h2]; rfl
      have hd : s.data.toList.drop p = c :: s.data.toList.drop (p + 1) := by
        obtain ⟨h1, rfl⟩ := List.getElem?_eq_some_iff.1 hc
        exact List.drop_eq_getElem_cons h1
      unfold Lib.idxFuncFrom
      rw [if_pos hps, hd, List.any_cons]
      by_cases ha : c.toNat < 128
      · have hdec := decode_ascii s p hps (by rw [hcg]; exact ha)
        rw [hdec, hcg]
        have hb : Hx c.toNat = G4 c := by
          unfold Hx G4
          rw [decide_eq_decide]
          omega
        rw [hb]
        cases hbb : G4 c with
        | true => simp
        | false => simpa using ih (p + 1) Zo
      · have hbad : G4 c = true := by unfold G4; rw [decide_eq_true_eq]; omega
        have hrune : Hx (Utf8.decode s p).1 = true := by
          have hge : 128 ≤ (Utf8.decode s p).1 := by
            have e : s.get! (p + 0) = c := by
              show s.get! p = _
              rw [← hcg]
              simp [ByteArray.get!, getElem!_pos, hps]
              rfl
            unfold Utf8.decode
            simp only [e, ha, if_false]
            split
            · split
              · rename_i h; exact Nat.le_trans Zd h
              · decide
            · split
              · split
                · rename_i h; simp only [Bool.and_eq_true, decide_eq_true_eq] at h; exact Nat.le_trans Zd h.1
                · decide
              · split
                · split
                  · rename_i h; simp only [Bool.and_eq_true, decide_eq_true_eq] at h; exact Nat.le_trans Zd h.1
                  · decide
                · decide
          unfold Hx; rw [decide_eq_true_eq]; omega
        rw [hrune, hbad]
        simp
  have h := key s.size 0 Zo
  simpa [Lib.idxFunc] using h
theorem QC (s:ByteArray):(!decide (s=⟨#[]⟩)&&decide ((s.size:Int)≤32)&&decide (Lib.idxFunc Hx true s<0))=Cp s:=by
 rw[Cp,Bool.eq_iff_iff]
 simp only[Bool.and_eq_true,Bool.not_eq_true',decide_eq_false_iff_not,decide_eq_true_eq,NO,ne_eq]
 constructor
 ·rintro⟨⟨h1,h2⟩,h3⟩;exact⟨⟨h1,by omega⟩,h3⟩
 ·rintro⟨⟨h1,h2⟩,h3⟩;exact⟨⟨h1,by omega⟩,h3⟩
attribute [local irreducible] X
theorem QD (s:ByteArray)(w:World)(hl:s.size≤4294967295):
  Calls prog 37 #[.string s] w (AU (fun v w'=>v= .bool (Cp s)∧As w w')):=by
 have hdl:=JF s;refine Af (n:=56) func37 rfl rfl rfl ?_;refine jG ?_;refine jV (Q0 rfl rfl) ?_;refine jG ?_;refine jW ?_ (hx:=by exact fun hg=>(Ft underlying9 (Bh hg)));refine jG ?_;refine jV (Ba rfl rfl rfl) ?_;refine jG ?_;refine jF ?_ ?_
 ·intro hc11
  refine jG ?_;refine jJ func37 ?_;exact⟨_,rfl,by rw[O9 (fun h_=>hc11.elim (fun e_=>h_.1 e_) (fun e_=>by omega))],(Ao.refl _ w)⟩
 ·intro hc11
  refine jG ?_;refine Al.loop (ι:=Nat) (fun i ρ' w'=>AG ρ' [(0,.string s),(3,.int .i64 ((i:Nat):Int))]∧As w w'∧(i≤s.size)∧(Ep G4 s.data.toList i)) (fun i=>s.size-i) 0 ?_ ?_
  ·refine⟨⟨rfl,rfl,trivial⟩,(Ao.refl _ w),?_,?_⟩
   ·omega
   ·exact Ep.zero _ _
  rintro i a1 a2 ⟨a0,K0,hi,hno⟩ ih1;obtain⟨ρ₀,rfl⟩:=a0.ex;clear a0;refine jG ?_;refine jV (Ft underlying9 rfl) ?_;refine jG ?_;refine jF ?_ ?_
  ·intro hc15
   obtain⟨c,hx⟩:=Q6 s (i:=i) Zo;refine jG ?_;refine jV (FH underlying9 rfl rfl hx) ?_;refine jG ?_;refine jV (AN rfl rfl rfl) ?_;refine jG ?_;refine jW ?_ (hx:=by exact fun hg=>(HZ hg rfl rfl rfl));refine jV (Ba rfl rfl rfl) ?_;refine jG ?_;refine jW ?_ (hx:=by exact fun hg=>(HZ hg rfl rfl rfl));refine jV (Ba rfl rfl rfl) ?_;refine jG ?_;refine jV (Ba rfl rfl rfl) ?_;refine jG ?_;refine jV (Ba rfl rfl rfl) ?_;refine jG ?_;refine jV (Ba rfl rfl rfl) ?_;refine jG ?_;refine jF ?_ ?_
   ·intro hc55
    refine jG ?_;refine jJ func37 ?_;exact⟨_,rfl,by rw[NL hx (by simp only[G4,decide_eq_true_eq];omega)],K0⟩
   ·intro hc55
    refine jG ?_;refine jV (Ay (c:=((i+1:Nat):Int)) (Aq rfl rfl Zo Zo) rfl) ?_;refine jG ?_;refine ih1 (i+1) _ _ ?_ Zo;refine⟨⟨rfl,rfl,trivial⟩,K0,?_,?_⟩
    ·omega
    ·exact hno.step hx (by simp only[G4,decide_eq_false_iff_not];omega)
  ·intro hc15
   refine jG ?_;refine jJ func37 ?_;exact⟨_,rfl,by rw[NM ⟨hc11.1,by omega⟩ hno Zo],K0⟩
theorem Pc (b:Int)(w:World):
  Calls prog 39 #[.int .u64 b] w (AU (fun v w'=>v= .bool (decide (B2 b))∧As w w')):=by
 refine Af (n:=9) func39 rfl rfl rfl ?_;refine jG ?_;refine jV (Ba rfl rfl rfl) ?_;refine jG ?_;refine jJ func39 ?_;exact⟨_,rfl,congrArg Value.bool (by rw[Bool.eq_iff_iff,decide_eq_true_iff];unfold B2;simp),(Ao.refl _ w)⟩
theorem Ta (n k:Int)(w:World):
  Calls prog 38 #[.int .i64 n,.int .i64 k] w (AU (fun v w'=>v= .bool (decide (k≤n)&&decide (n≤1000000))∧As w w')):=by
 refine Af (n:=12) func38 rfl rfl rfl ?_;refine jG ?_;refine jV (AN rfl rfl rfl) ?_;refine jG ?_;refine jJ func38 ?_;exact⟨_,rfl,rfl,(Ao.refl _ w)⟩
theorem RU (b:Int)(w:World)(h0:0≤b)(h1:b<18446744073709551616):
  Calls prog 102 #[.int .u64 b] w (AU (fun v w'=>v= .bool (decide (B2 b))∧As w w')):=by
 refine Af (n:=6) func102 rfl rfl rfl ?_;refine jG ?_;refine jR<|AD.extn (vals:=[.int .u64 b]) (v:= .float .f64 b.toNat) rfl (by rw[run_callFunc_extern func115 Zk Zk Zk (e:=Extern.MathFloatBits.float64frombits) Zk];rfl) ?_;refine jV (SD h0 h1 rfl rfl) ?_;refine jG ?_;refine jJ func102 ?_;exact⟨_,rfl,rfl,(Ao.refl _ w)⟩
theorem LU (r:Int)(w:World):
  Calls prog 128 #[.int .i32 r] w (AU (fun v w'=>v= .bool (Utf8.valid r)∧As w w')):=by
 refine Af (n:=17) func128 rfl rfl rfl ?_;refine jG ?_;refine jV (AN rfl rfl rfl) ?_;refine jG ?_;refine jF ?_ ?_
 ·intro hc3
  refine jG ?_;refine jJ func128 ?_;exact⟨_,rfl,congrArg Value.bool (by rw[In];simp;omega),(Ao.refl _ w)⟩
 ·intro hc3
  refine jG ?_;refine jV (AN rfl rfl rfl) ?_;refine jG ?_;refine jF ?_ ?_
  ·intro hc10
   refine jG ?_;refine jJ func128 ?_;exact⟨_,rfl,congrArg Value.bool (by rw[In];simp;omega),(Ao.refl _ w)⟩
  ·intro hc10
   refine jG ?_;refine jJ func128 ?_;exact⟨_,rfl,congrArg Value.bool (by rw[In];simp;omega),(Ao.refl _ w)⟩
theorem Pd (r:Int)(w:World)(h0:0≤r)(h1:r≤1114111):
  Calls prog 120 #[.string (⟨#[45,95,46]⟩:ByteArray),.int .i32 r] w (AU (fun v w'=>∃q:Int,v= .int .i64 q∧(0≤q↔r=45∨r=95∨r=46)∧As w w')):=by
 refine Af (n:=187) func120 rfl rfl rfl ?_;refine Cc ?_;by_cases hA:r<128
 ·refine Cc ?_
  refine jV (A3 (I7 rfl rfl) (decide_eq_true h0)) ?_;refine CU ?_;refine jT<|jO (A3 (DG rfl rfl) (decide_eq_true hA)) ?_;refine jV (BA rfl rfl rfl) ?_;refine jG ?_;refine CE ?_;refine jG ?_;refine jV (Ms rfl ⟨_,underlying21⟩ underlying5) ?_;refine jR<|jC (JW (Any.strings_IndexByte idxBL (⟨#[45,95,46]⟩:ByteArray) (IntKind.u8.wrap r) _)) ?_;rintro _ _ ⟨rfl,rfl⟩;refine jG ?_;refine jJ func120 ?_;exact⟨_,rfl,_,rfl,RR h0 hA,(Ao.refl _ w)⟩
 ·refine Cc ?_
  refine jV (A3 (I7 rfl rfl) (decide_eq_true h0)) ?_;refine CU ?_;refine jT<|jO (AR (DG rfl rfl) (decide_eq_false hA)) ?_;refine jV (BA rfl rfl rfl) ?_;refine jG ?_;refine Al.condF rfl ?_;refine BP ?_;by_cases hB:r=65533
  ·refine Cc ?_
   refine jV (A3 (BQ rfl rfl) (by simp[hB])) ?_;refine jG ?_;refine CE ?_;refine jG ?_;refine jR<|AD.rangeStr underlying9 rfl ?_;intro a0 ad a1 a2 a3;have:w.heap.size≤a0:=a1;have K0:=(a3:As w _);refine jG ?_;refine Al.unloop ?_;refine jG ?_;refine jR<|AD.nextStr (p:=0) (r:=45) (wd:=1) rfl a2 Zd (by decide+kernel) ?_;intro ae a4 a5;refine jG ?_;refine CE ?_;refine jG ?_;refine Al.condF rfl ?_;refine jG ?_;refine Al.inLoop ?_;refine jG ?_;refine jR<|AD.nextStr (p:=1) (r:=95) (wd:=1) rfl a4 Zd (by decide+kernel) ?_;intro af a6 a7;refine jG ?_;refine CE ?_;refine jG ?_;refine Al.condF rfl ?_;refine jG ?_;refine Al.inLoop ?_;refine jG ?_;refine jR<|AD.nextStr (p:=2) (r:=46) (wd:=1) rfl a6 Zd (by decide+kernel) ?_;intro ag a8 a9;refine jG ?_;refine CE ?_;refine jG ?_;refine Al.condF rfl ?_;refine jG ?_;refine Al.inLoop ?_;refine jG ?_;refine jR<|AD.nextEnd rfl a8 Zd ?_;refine jG ?_;refine Al.condF rfl ?_;refine jG ?_;refine jJ func120 ?_;replace K0:=((K0.n1 a5).n1 a7).n1 a9;exact⟨_,rfl,_,rfl,by omega,K0⟩
  ·refine Cc ?_
   refine jV (AR (BQ rfl rfl) (by simp[hB])) ?_;refine jG ?_;refine Al.condF rfl ?_;refine jG ?_;refine jR<|jC (LU _ _) ?_;rintro _ ah ⟨rfl,aa⟩;have K0:=(aa:As w _);refine jG ?_;refine jF ?_ ?_
   ·intro hc183
    skip
    refine jG ?_;refine jJ func120 ?_;exact⟨_,rfl,_,rfl,by omega,K0⟩
   ·intro hc183
    obtain⟨m,c,hm1,hm3,hsz,hcc,hc8⟩:=LT hc183 Zo;refine jG ?_;refine jV (NK Zk underlying9 rfl) ?_;refine jG ?_;refine jV (Ay (c:=((m+1:Nat):Int)) (Ft underlying9 rfl) (by rw[hsz])) ?_;refine jV (Ay (c:=((m:Nat):Int)) (B6 rfl rfl Zo Zo) Zo) ?_;refine jG ?_;refine Al.unloop ?_;refine jG ?_;refine jV (Ay (c:=3) (Ft underlying9 rfl) Zd) ?_;refine jG ?_;refine jF ?_ ?_
    ·intro hc26
     refine jG ?_;obtain⟨d,hd,hd8⟩:=Pb hm1 Zo;refine Al.drawR ?_;intro ai ab;refine jG ?_;refine jD (FH (i:=m) (c:=d) underlying9 rfl rfl hd) ?_;refine jG ?_;refine jD (FH (i:=m) (c:=c) underlying9 rfl rfl hcc) ?_;refine jD (A3 (Co rfl rfl) Zi) ?_;refine jG ?_;refine CE ?_;refine jG ?_;refine Al.drawT [] (m:=9) Zk rfl ?_;intro aj ac;refine⟨fun w'=>True,?_⟩;refine RT.takeP 0 rfl Zk (.inr trivial) (fun _=>(Hz rfl)) ?_;refine RT.takeP 1 rfl Zk (.inr trivial) (fun _=>(BD rfl)) ?_;refine RT.takeP 2 rfl Zk (.inr trivial) (fun _=>(Ay (c:=((m+1:Nat):Int)) (Aq rfl rfl Zo Zo) rfl)) ?_;refine RT.takeP 3 rfl Zk (.inr trivial) (fun _=>(Kq (i:=m+1) underlying9 rfl rfl (by simp only[show(⟨#[45,95,46]⟩:ByteArray).size=3 from rfl];omega))) ?_;refine RT.takeP 4 rfl Zk (.inr trivial) (fun _=>(Hz rfl)) ?_;refine RT.takeP 5 rfl Zk (.inr trivial) (fun _=>(BD rfl)) ?_;refine RT.takeP 6 rfl Zk (.inr trivial) (fun _=>(FH (i:=m) (c:=c) underlying9 rfl rfl hcc)) ?_;refine RT.st 7 rfl Zk rfl<|jC (JW (Any.strings_IndexByte idxBL ((⟨#[45,95,46]⟩:ByteArray).extract (m+1) (⟨#[45,95,46]⟩:ByteArray).size) ((c).toNat:Int) _)) ?_;rintro _ _ ⟨rfl,rfl⟩;refine⟨.inr trivial,?_⟩;refine RT.takeP 8 rfl Zk (.inr trivial) (fun _=>(Bp rfl)) ?_;refine RT.done Zk ?_;refine Cc ?_;refine jV (A3 (DG rfl rfl) (by rw[Pa hm1 Zo hc8];decide)) ?_;refine jG ?_;refine CE ?_;refine jG ?_;refine jJ func120 ?_;replace K0:=(K0.ext ab).ext ac;exact⟨_,rfl,_,rfl,by omega,K0⟩
    ·intro hc26
     refine jG ?_;refine jJ func120 ?_;exact⟨_,rfl,_,rfl,by omega,K0⟩
theorem NP (r:Int)(w:World)(h0:0≤r)(h1:r≤1114111):
  Calls prog 113 #[.string (⟨#[45,95,46]⟩:ByteArray),.int .i32 r] w (AU (fun v w'=>v= .bool (decide (r=45∨r=95∨r=46))∧As w w')):=by
 refine Af (n:=9) func113 rfl rfl rfl ?_;refine jG ?_;refine jR<|jC (Pd r _ h0 h1) ?_;rintro _ a1 ⟨q,rfl,hq,a0⟩;have K0:=(a0:As w _);refine jG ?_;refine jJ func113 ?_;exact⟨_,rfl,congrArg Value.bool (by rw[decide_eq_decide];exact hq),K0⟩
theorem RV (x:Nat)(w:World)(hx:x≤1114111):
  Calls prog 112 #[.int .i32 ((x:Nat):Int)] w (AU (fun v w'=>v= .bool (Hx x)∧As w w')):=by
 refine Af (n:=30) func112 rfl rfl rfl ?_;refine jG ?_;refine jV (AN rfl rfl rfl) ?_;refine jG ?_;refine jW ?_ (hx:=by exact fun hg=>(HZ hg rfl rfl rfl));refine jV (Ba rfl rfl rfl) ?_;refine jG ?_;refine jW ?_ (hx:=by exact fun hg=>(HZ hg rfl rfl rfl));refine jV (Ba rfl rfl rfl) ?_;refine jG ?_;refine RL.gcall (vals:=[.string (⟨#[45,95,46]⟩:ByteArray),.int .i32 ((x:Nat):Int)]) (Bw rfl rfl rfl rfl) en113.h (fun hg=>(Bm rfl (Bm (Bh hg) Di))) (fun hg=>(NP ((x:Nat):Int) _ Zo Zo)) ?_;intro a1 a0;have K0:=(a0:As w _);refine jV (Ba rfl rfl rfl) ?_;refine jG ?_;refine jJ func112 ?_;exact⟨_,rfl,congrArg Value.bool (by unfold Hx;rw[Bool.eq_iff_iff];simp;omega),K0⟩
theorem Pe (s:ByteArray)(w:World):Calls prog 121 #[.string s,.func (.func 112) #[] #[],.bool true] w (AU fun v w'=>v= .int .i64 (Lib.idxFunc Hx true s)∧As w w'):=
 (Any.strings_indexFunc_grows idxFL 112 #[] (FE func112 rfl Zk) Hx true s w (fun W x hx _=>(RV x W hx).mono fun e w' ⟨v,h1,h2,h3⟩=>⟨by rw[h1,h2],h3.below⟩)).mono fun e w' ⟨h1,h2⟩=>⟨_,h1,rfl,NN h2⟩
theorem NQ (s:ByteArray)(w:World):
  Calls prog 114 #[.string s,.func (.func 112) #[] #[]] w (AU (fun v w'=>v= .int .i64 (Lib.idxFunc Hx true s)∧As w w')):=by
 refine Af (n:=8) func114 rfl rfl rfl ?_;refine jG ?_;refine jR<|jC (Pe s _) ?_;rintro _ a1 ⟨rfl,a0⟩;have K0:=(a0:As w _);refine jG ?_;refine jJ func114 ?_;exact⟨_,rfl,rfl,K0⟩
theorem SE (s:ByteArray)(w:World):
  Calls prog 101 #[.string s] w (AU (fun v w'=>v= .bool (Cp s)∧As w w')):=by
 refine Af (n:=17) func101 rfl rfl rfl ?_;refine jG ?_;refine jV (Mt rfl rfl) ?_;refine jG ?_;refine jW ?_ (hx:=by exact fun hg=>(Ft underlying9 (Bh hg)));refine jG ?_;refine jV (AN rfl rfl rfl) ?_;refine jG ?_;refine RL.gcall (vals:=[.string s,.func (.func 112) #[] #[]]) (A8 rfl rfl rfl rfl) en114.h (fun hg=>(Bm (Bh hg) (Bm (Bh hg) Di))) (fun hg=>(NQ s _)) ?_;intro a1 a0;have K0:=(a0:As w _);refine jG ?_;refine jV (AN rfl rfl rfl) ?_;refine jG ?_;refine jJ func101 ?_;exact⟨_,rfl,congrArg Value.bool (QC s),K0⟩
end Go.Proofs.YtocgdeefgohdhaaGreat
namespace Go.Proofs.YtocgdeefgohdhaaGreat
open Go.Proofs.Tryz
attribute [local irreducible] RD RS AD RL RA RT BH Al
theorem cmpB_lt : ∀ a b : List UInt8, Lib.compareBytes a b < 0 ↔ a < b
  | [], [] => by simp [Lib.compareBytes]
  | [], _ :: _ => by simp [Lib.compareBytes]
  | _ :: _, [] => by simp [Lib.compareBytes]
  | a :: r, b :: s => by
    rw [Lib.compareBytes, List.cons_lt_cons_iff, ← cmpB_lt r s]
    split
    · rename_i h; simp [h]
    · rename_i h
      split
      · rename_i h2
        simp only [h, false_or]
        constructor
        · intro h3; omega
        · rintro ⟨e, -⟩; subst e; exact absurd h2 h
      · rename_i h2
        have e : a = b := UInt8.toNat_inj.1 (by rw [UInt8.lt_iff_toNat_lt] at h h2; omega)
        simp [e]
theorem cmpB_eq : ∀ a b : List UInt8, Lib.compareBytes a b = 0 ↔ a = b
  | [], [] => by simp [Lib.compareBytes]
  | [], _ :: _ => by simp [Lib.compareBytes]
  | _ :: _, [] => by simp [Lib.compareBytes]
  | a :: r, b :: s => by
    rw [Lib.compareBytes]
    split
    · rename_i h
      constructor
      · intro h2; omega
      · intro e; cases e; exact absurd h (by rw [UInt8.lt_iff_toNat_lt]; omega)
    · rename_i h
      split
      · rename_i h2
        constructor
        · intro h2; omega
        · intro e; cases e; exact absurd h2 h
      · rename_i h2
        have e : a = b := UInt8.toNat_inj.1 (by rw [UInt8.lt_iff_toNat_lt] at h h2; omega)
        rw [cmpB_eq r s]; simp [e]
theorem KQ {a b:ByteArray}:a.data.toList=b.data.toList↔a=b:=by
 constructor
 ·intro h;cases a;cases b;simp only[ByteArray.mk.injEq];exact Array.toList_inj.1 h
 ·rintro rfl;rfl
theorem HC (a:List UInt8):¬a<a:=fun h=>by
 have h1:=(cmpB_lt a a).2 h
 have h2:=(cmpB_eq a a).2 rfl
 omega
theorem ltL_trans : ∀ {a b c : List UInt8}, a < b → b < c → a < c
  | _, _, [], _, h => absurd h (List.not_lt_nil _)
  | _, [], _ :: _, h, _ => absurd h (List.not_lt_nil _)
  | [], _ :: _, _ :: _, _, _ => List.nil_lt_cons _ _
  | a :: r, b :: s, c :: t, h1, h2 => by
    rw [List.cons_lt_cons_iff] at *
    simp only [UInt8.lt_iff_toNat_lt] at *
    rcases h1 with h1 | ⟨rfl, h1⟩ <;> rcases h2 with h2 | ⟨rfl, h2⟩
    · exact .inl Zo
    · exact .inl h1
    · exact .inl h2
    · exact .inr ⟨rfl, ltL_trans h1 h2⟩
theorem MT {a b : List UInt8} (h : ¬ a < b) (h2 : ¬ b < a) : a = b := by
  induction a generalizing b with
  | nil => cases b with
    | nil => rfl
    | cons => exact absurd (List.nil_lt_cons _ _) h
  | cons x a ih => cases b with
    | nil => exact absurd (List.nil_lt_cons _ _) h2
    | cons y b =>
      rw [List.cons_lt_cons_iff] at h h2
      simp only [UInt8.lt_iff_toNat_lt] at h h2
      have e : x = y := UInt8.toNat_inj.1 Zo
      subst e
      rw [ih (fun h3 => h (.inr ⟨rfl, h3⟩)) (fun h3 => h2 (.inr ⟨rfl, h3⟩))]
def Es (a b:Ai):Prop:=a.item.data.toList<b.item.data.toList∨a.item=b.item∧CK a.dot b.dot
instance (a b:Ai):Decidable (Es a b):=by unfold Es;infer_instance
def Fb (a b:Ai):Int:=Lib.compareBytes a.item.data.toList b.item.data.toList
def GC (a b:Ai):Int:=if Fb a b=0 then B9 a.dot b.dot else Fb a b
theorem D7 {a b:Ai}:GC a b<0↔Es a b:=by
 unfold GC Es
 rw[←cmpB_lt]
 have e:=(cmpB_eq a.item.data.toList b.item.data.toList).trans KQ
 unfold Fb
 split
 ·rename_i h;rw[DD];simp[e.1 h,(cmpB_eq b.item.data.toList b.item.data.toList).2 rfl]
 ·rename_i h;simp only[show¬a.item=b.item from fun e2=>h (e.2 e2),false_and,or_false]
theorem QE {a b:Ai}:0≤GC a b↔¬Es a b:=by rw[←D7];omega
theorem HD (a:Ai):¬Es a a:=by
 rintro(h|⟨-,h⟩)
 ·exact HC _ h
 ·exact JJ h
theorem Ed (a b c:Ai)(h1:Es a b)(h2:Es b c):Es a c:=by
 rcases h1 with h1|⟨e1,h1⟩<;>rcases h2 with h2|⟨e2,h2⟩
 ·exact .inl (ltL_trans h1 h2)
 ·exact .inl (e2▸h1)
 ·exact .inl (e1▸h2)
 ·exact .inr ⟨e1.trans e2,EP h1 h2⟩
theorem HE {a b:Ai}(h:¬Es a b)(h2:¬Es b a):a.item=b.item∧a.dot=b.dot:=by
 have e:a.item=b.item:=KQ.1 (MT (fun h3=>h (.inl h3)) (fun h3=>h2 (.inl h3)))
 exact⟨e,HB (fun h3=>h (.inr ⟨e,h3⟩)) (fun h3=>h2 (.inr ⟨e.symm,h3⟩))⟩
def itemsN :List Ai→Nat
 |[]=>0
 |[_]=>1
 |x::y::t=>(if x.item=y.item then 0 else 1)+itemsN (y::t)
theorem itemsN_le : ∀ l : List Ai, itemsN l ≤ l.length
  | [] => Nat.le_refl _
  | [_] => Nat.le_refl _
  | x :: y :: t => by
    have := itemsN_le (y :: t)
    rw [itemsN]
    split <;> simp only [List.length_cons] at * <;> omega
theorem itemsN_snoc : ∀ (l : List Ai) (y : Ai), itemsN (l ++ [y]) = itemsN l + (if ∃ x, l.getLast? = some x ∧ x.item = y.item then 0 else 1)
  | [], y => by simp [itemsN]
  | [x], y => by simp [itemsN]; split <;> rfl
  | x :: z :: t, y => by
    have h := itemsN_snoc (z :: t) y
    rw [List.cons_append, List.cons_append, itemsN, ← List.cons_append, h, itemsN, List.getLast?_cons_cons]
    omega
theorem itemsN_run : ∀ (k : Nat) (x : Ai) (t : List Ai), (∀ j y, j < k → (x :: t)[j]? = some y → y.item = x.item) → 1 ≤ k → k ≤ t.length + 1 → (∀ y, (x :: t)[k]? = some y → y.item ≠ x.item) → itemsN (x :: t) = 1 + itemsN ((x :: t).drop k)
  | 0, _, _, _, h, _, _ => absurd h Zo
  | 1, x, [], _, _, _, _ => by simp [itemsN]
  | 1, x, y :: t, _, _, _, h => by
    have := h y rfl
    rw [itemsN, if_neg (fun e => this e.symm)]; rfl
  | k + 2, x, [], _, _, h, _ => absurd h Zs
  | k + 2, x, y :: t, h, _, hl, hn => by
    have e : y.item = x.item := h 1 y Zo rfl
    rw [itemsN, if_pos e.symm, Nat.zero_add, List.drop_succ_cons]
    exact itemsN_run (k + 1) y t (fun j z hj hz => by rw [e]; exact h (j + 1) z Zo (by simpa using hz)) Zo (by simp only [List.length_cons] at hl; omega) (fun z hz => by rw [e]; exact hn z (by simpa using hz))
noncomputable def Do (ms:List Ac)(cl:List Ah)(pre:List Ai)(x:Ai):Int:=
 open Classical in
 if Cp x.item=false then 6 else if ¬(1≤x.qty∧x.qty≤1000000)then 52 else if ¬B2 x.price then 53
 else if ¬CP ms cl x.dot∨(∃y,pre.getLast? =some y∧¬Es y x)∨(∃y∈pre,y.dot=x.dot)then 50 else 0
noncomputable def By (ms:List Ac)(cl:List Ah)(es:List Ai):Nat→Int
 |0=>0
 |n+1=>if By ms cl es n≠0 then By ms cl es n else match es[n]? with|some x=>Do ms cl (es.take n) x|none=>0
noncomputable def Bk (ms:List Ac)(cl:List Ah)(es:List Ai):Int:=
 if Cr ms cl=false then 30 else if 64<es.length then 51 else if By ms cl es es.length≠0 then By ms cl es es.length else if 32<itemsN es then 51 else 0
section
variable {ms :List Ac}{cl:List Ah}{es pre:List Ai}{x y:Ai}{i:Nat}
theorem G5 (h:Cp x.item=false):Do ms cl pre x=6:=by rw[Do,if_pos h]
theorem Io (h1:Cp x.item=true)(h:¬(1≤x.qty∧x.qty≤1000000)):Do ms cl pre x=52:=by rw[Do,if_neg (by simp[h1]),if_pos h]
theorem F8 (h1:Cp x.item=true)(h2:1≤x.qty∧x.qty≤1000000)(h:¬B2 x.price):Do ms cl pre x=53:=by rw[Do,if_neg (by simp[h1]),if_neg (not_not_intro h2),if_pos h]
theorem CQ (h1:Cp x.item=true)(h2:1≤x.qty∧x.qty≤1000000)(h3:B2 x.price)(h:¬CP ms cl x.dot∨(∃y,pre.getLast? =some y∧¬Es y x)∨(∃y∈pre,y.dot=x.dot)):Do ms cl pre x=50:=by
 rw[Do,if_neg (by simp[h1]),if_neg (not_not_intro h2),if_neg (not_not_intro h3),if_pos h]
theorem GD (h1:Cp x.item=true)(h2:1≤x.qty∧x.qty≤1000000)(h3:B2 x.price)(h:CP ms cl x.dot)(h4:∀y,pre.getLast? =some y→Es y x)(h5:∀y∈pre,y.dot≠x.dot):Do ms cl pre x=0:=by
 rw[Do,if_neg (by simp[h1]),if_neg (not_not_intro h2),if_neg (not_not_intro h3),if_neg]
 rintro(h6|⟨y,hy,h6⟩|⟨y,hy,h6⟩)
 ·exact h6 h
 ·exact h6 (h4 y hy)
 ·exact h5 y hy h6
structure Tb (ms:List Ac)(cl:List Ah)(pre:List Ai)(x:Ai):Prop where
 name:Cp x.item=true
 qty:1≤x.qty∧x.qty≤1000000
 price:B2 x.price
 cov:CP ms cl x.dot
 last:∀y,pre.getLast? =some y→Es y x
 dots:∀y∈pre,y.dot≠x.dot
theorem errE_iff :Do ms cl pre x=0↔Tb ms cl pre x:=by
 constructor
 ·intro h
  have h1:Cp x.item=true:=Decidable.byContradiction fun h1=>by rw[G5 (by simpa using h1)]at h;omega
  have h2:1≤x.qty∧x.qty≤1000000:=Decidable.byContradiction fun h2=>by rw[Io h1 h2]at h;omega
  have h3:B2 x.price:=Decidable.byContradiction fun h3=>by rw[F8 h1 h2 h3]at h;omega
  have h4:¬(¬CP ms cl x.dot∨(∃y,pre.getLast? =some y∧¬Es y x)∨(∃y∈pre,y.dot=x.dot)):=fun h4=>by rw[CQ h1 h2 h3 h4]at h;omega
  exact⟨h1,h2,h3,Decidable.byContradiction fun h5=>h4 (.inl h5),fun y hy=>Decidable.byContradiction fun h5=>h4 (.inr (.inl ⟨y,hy,h5⟩)),fun y hy e=>h4 (.inr (.inr ⟨y,hy,e⟩))⟩
 ·intro h;exact GD h.name h.qty h.price h.cov h.last h.dots
theorem Fc (n:Nat):By ms cl es (n+1)=if By ms cl es n≠0 then By ms cl es n else match es[n]? with|some x=>Do ms cl (es.take n) x|none=>0:=rfl
theorem KR {n m : Nat} (h : By ms cl es n ≠ 0) (hm : n ≤ m) : By ms cl es m = By ms cl es n := by
  induction m with
  | zero => have : n = 0 := by omega
            subst this; rfl
  | succ m ih =>
    by_cases e : n = m + 1
    · subst e; rfl
    · have := ih Zo
      rw [Fc, this, if_pos h]
theorem Ji (h0:By ms cl es i=0)(hx:es[i]? =some x)(h:Do ms cl (es.take i) x≠0):By ms cl es es.length=Do ms cl (es.take i) x:=by
 have hi:=(List.getElem?_eq_some_iff.1 hx).1
 have e:By ms cl es (i+1)=Do ms cl (es.take i) x:=by rw[Fc,if_neg (not_not_intro h0),hx]
 rw[KR (n:=i+1) (by rw[e];exact h) hi,e]
theorem Fy (h0:By ms cl es i=0)(hx:es[i]? =some x)(h:Do ms cl (es.take i) x=0):By ms cl es (i+1)=0:=by rw[Fc,if_neg (not_not_intro h0),hx];exact h
theorem firstE_all : ∀ {n : Nat}, By ms cl es n = 0 → ∀ i x, i < n → es[i]? = some x → Tb ms cl (es.take i) x
  | 0, _, _, _, h, _ => absurd h Zo
  | n + 1, h, i, x, hi, hx => by
    rw [Fc] at h
    by_cases h0 : By ms cl es n = 0
    · rw [if_neg (not_not_intro h0)] at h
      by_cases e : i = n
      · subst e; rw [hx] at h; exact errE_iff.1 h
      · exact firstE_all h0 i x Zo hx
    · rw [if_pos h0] at h; exact absurd h h0
theorem Ip (h:Cr ms cl=false):Bk ms cl es=30:=by rw[Bk,if_pos h]
theorem G6 (h:Cr ms cl=true)(h2:64<es.length):Bk ms cl es=51:=by rw[Bk,if_neg (by simp[h]),if_pos h2]
theorem MU (h:Cr ms cl=true)(h2:es.length≤64)(h0:By ms cl es i=0)(hx:es[i]? =some x)(h3:Do ms cl (es.take i) x≠0):Bk ms cl es=Do ms cl (es.take i) x:=by
 rw[Bk,if_neg (by simp[h]),if_neg Zo,if_pos (by rw[Ji h0 hx h3];exact h3),Ji h0 hx h3]
theorem G7 (h:Cr ms cl=true)(h2:es.length≤64)(h0:By ms cl es es.length=0)(h3:32<itemsN es):Bk ms cl es=51:=by rw[Bk,if_neg (by simp[h]),if_neg Zo,if_neg (not_not_intro h0),if_pos h3]
theorem MW (h:Cr ms cl=true)(h2:es.length≤64)(h0:By ms cl es es.length=0)(h3:itemsN es≤32):Bk ms cl es=0:=by rw[Bk,if_neg (by simp[h]),if_neg Zo,if_neg (not_not_intro h0),if_neg Zo]
structure Fr (ms:List Ac)(cl:List Ah)(es:List Ai):Prop where
 ctx:EC ms cl
 len:es.length≤64
 ent:∀i x,es[i]? =some x→Tb ms cl (es.take i) x
 items:itemsN es≤32
theorem GE (h:Bk ms cl es=0):Fr ms cl es:=by
 have h1:Cr ms cl=true:=by
  cases hc:Cr ms cl with
  |true=>rfl
  |false=>rw[Ip hc]at h;omega
 have h2:es.length≤64:=Nat.le_of_not_lt fun h2=>by rw[G6 h1 h2]at h;omega
 have h3:By ms cl es es.length=0:=Decidable.byContradiction fun h3=>by
  rw[Bk,if_neg (by simp[h1]),if_neg Zo,if_pos h3]at h;exact h3 h
 have h4:itemsN es≤32:=Nat.le_of_not_lt fun h4=>by rw[G7 h1 h2 h3 h4]at h;omega
 exact⟨C0.1 h1,h2,fun i x hx=>firstE_all h3 i x (List.getElem?_eq_some_iff.1 hx).1 hx,h4⟩
theorem EW {es:List Ai}(hi:0<i)(h:es[i-1]? =some y):(es.take i).getLast? =some y:=by
 have hl:=(List.getElem?_eq_some_iff.1 h).1
 rw[List.getLast?_eq_getElem?,List.length_take,Nat.min_eq_left Zo,List.getElem?_take_of_lt Zo];exact h
theorem FX {es:List Ai}(hl:i≤es.length)(h:(es.take i).getLast? =some y):0<i∧es[i-1]? =some y:=by
 rw[List.getLast?_eq_getElem?,List.length_take,Nat.min_eq_left Zo]at h
 by_cases h0:0<i
 ·rw[List.getElem?_take_of_lt Zo]at h;exact⟨h0,h⟩
 ·have:i=0:=by omega
  subst this;simp at h
theorem Fr.sorted (h:Fr ms cl es):es.Pairwise Es:=E7 (fun a b c=>Ed a b c) fun i x y hx hy=>(h.ent (i+1) y hy).last x (EW Zo hx)
theorem Fr.mem (h:Fr ms cl es)(hx:x∈es):Cp x.item=true∧(1≤x.qty∧x.qty≤1000000)∧B2 x.price∧CP ms cl x.dot:=by
 obtain⟨i,hi,rfl⟩:=List.getElem_of_mem hx
 have h:=h.ent i _ (List.getElem?_eq_getElem hi)
 exact⟨h.name,h.qty,h.price,h.cov⟩
theorem Fr.dots (h:Fr ms cl es){x y:Ai}(hx:x∈es)(hy:y∈es)(e:x.dot=y.dot):x=y:=by
 obtain⟨i,hi,rfl⟩:=List.getElem_of_mem hx
 obtain⟨j,hj,rfl⟩:=List.getElem_of_mem hy
 rcases Nat.lt_trichotomy i j with hlt|rfl|hlt
 ·exact absurd e ((h.ent j _ (List.getElem?_eq_getElem hj)).dots _ (List.mem_take_iff_getElem.2 ⟨i,by omega,rfl⟩))
 ·rfl
 ·exact absurd e.symm ((h.ent i _ (List.getElem?_eq_getElem hi)).dots _ (List.mem_take_iff_getElem.2 ⟨j,by omega,rfl⟩))
end
def Gr (w w':World):Prop:=∃(q:Nat) (os':Array Obj),w'=Go.Sort.grow (w.drewN q) os'
theorem Gr.refl (w:World):Gr w w:=⟨0,#[],by simp[Go.Sort.grow,World.drewN]⟩
theorem Gr.push (w:World)(o:Obj):Gr w {w with heap:=w.heap.push o}:=⟨0,#[o],by simp[Go.Sort.grow,World.drewN]⟩
theorem Gr.trans {a b c:World}(h:Gr a b)(k:Gr b c):Gr a c:=by
 obtain⟨q,os',rfl⟩:=h
 obtain⟨q2,os2,rfl⟩:=k
 exact⟨q+q2,os'++os2,by simp[Go.Sort.grow,World.drewN,Nat.add_assoc]⟩
section
variable {α :Type}[Enc α]{P:Program}{f:FuncId}{n:FN}{R:Ending→World→Prop}{k:List Item}{ρ:A5}{w:World}{dst:Option Nat}{ty:TypeId}{pos:String}{af:Array Edge}{K:A5→World→Prop}
theorem AD.boxG {e:TypeId}{x:Operand}{v:Value}(hx:rd n ρ x=v)
  (h:∀b w',w.heap.size≤b→AI w' b v.cells.toList e→As w w'→Gr w w'→K (Bo ρ dst (jp b)) w'):
  AD P f n R k ⟨dst,.box e x,ty,pos,af,none⟩ ρ w K:=
 AD.val (Q4 hx) (h _ _ (Nat.le_refl _) (Gk w _ e) (As.push w _) (Gr.push w _))
theorem AD.buildSliceG {t e:TypeId}{bytes len:Nat}{z:Value}{agg:Bool}{parts:List (Nat×Operand)}(ys:List α)(ht:P.underlying t=some (.slice e))(he:Ty P e (Enc.size α) bytes z agg)
  (hlen:len=ys.length) (hp:(parts.map fun(i,x)=>(i,rd n ρ x))=((ys.map Enc.val).zipIdx 0).map fun x=>(x.2,x.1)) (hl:ys.length*Enc.size α≤16777216)
  (h:∀b w',w.heap.size≤b→Ag w' e (some ⟨b,0,none⟩) ys.length ys→As w w'→Gr w w'→K (Bo ρ dst (.slice (some ⟨b,0,none⟩) ys.length ys.length)) w'):
  AD P f n R k ⟨dst,.buildSlice t len parts.toArray,ty,pos,af,none⟩ ρ w K:=by
 subst hlen
 have hpos:=Enc.pos (α:=α)
 have hm:ys.length≤ys.length*Enc.size α:=Nat.le_mul_of_pos_right _ hpos
 have hr:=run_buildSlice (P:=P) (w:=w) ht he ys (parts.toArray.map fun(i,x)=>(i,rd n ρ x)) (by simpa using hp) hl
 refine AD.val (v:= .slice (some ⟨w.heap.size,0,none⟩) ys.length ys.length) (w':={w with heap:=w.heap.push (.cells (AL ys).toArray e)}) ?_ (h _ _ (Nat.le_refl _) (H0 w e ys (by simp only[maxLen];omega)) (As.push w _) (Gr.push w _))
 simp only[execOp,Sem.run_bind,hr,Result.andThen_ok,Sem.run_pure]
theorem SF {t t':TypeId}{x y:Operand}{a b:ByteArray}{g:Option (Nat×Bool)}(hx:rd n ρ x= .string a)(hy:rd n ρ y= .string b):X P n ρ ⟨dst,.binOp .gtr t x y t',ty,pos,af,g⟩ w (.bool (decide (b.data.toList<a.data.toList))) w:=by
 have e:(!decide (a.data.toList<b.data.toList)&& !(a.data.toList==b.data.toList))=decide (b.data.toList<a.data.toList):=by
  rw[Bool.eq_iff_iff]
  simp only[Bool.and_eq_true,Bool.not_eq_true',decide_eq_false_iff_not,decide_eq_true_eq,beq_eq_false_iff_ne]
  exact⟨fun h=>Decidable.byContradiction fun h2=>h.2 (MT h.1 h2),fun h=>⟨fun h2=>HC _ (ltL_trans h h2),fun h2=>by rw[h2]at h;exact HC _ h⟩⟩
 rw[←e]
 simp[X,execOp,hx,hy,eqGuard,binOp,Op.stringOp,bytesLess_eq,ByteArray.toList_eq]
end
theorem Fz {es:List Ai}{i:Nat}{x:Ai}(hx:es[i]? =some x):itemsN (es.take (i+1))=itemsN (es.take i)+(if ∃y,(es.take i).getLast? =some y∧y.item=x.item then 0 else 1):=by
 rw[BG hx,itemsN_snoc]
theorem KS {es:List Ai}{i:Nat}{x:Ai}(hx:es[i]? =some x)(h:i=0):itemsN (es.take (i+1))=itemsN (es.take i)+1:=by
 rw[Fz hx,if_neg];subst h;rintro⟨y,hy,-⟩;simp at hy
theorem LV {es:List Ai}{i:Nat}{x y:Ai}(hx:es[i]? =some x)(h:0<i)(hy:es[i-1]? =some y)(hn:¬y.item=x.item):itemsN (es.take (i+1))=itemsN (es.take i)+1:=by
 rw[Fz hx,if_neg];rintro⟨z,hz,e⟩;rw[EW h hy]at hz;cases hz;exact hn e
theorem KT {es:List Ai}{i:Nat}{x y:Ai}(hx:es[i]? =some x)(h:0<i)(hy:es[i-1]? =some y)(hn:y.item=x.item):itemsN (es.take (i+1))=itemsN (es.take i):=by
 rw[Fz hx,if_pos ⟨y,EW h hy,hn⟩];rfl
theorem KU (es:List Ai):itemsN (es.take 0)=0:=rfl
theorem FY (es:List Ai)(i:Nat):itemsN (es.take i)≤es.length:=Nat.le_trans (itemsN_le _) Zt
attribute [local irreducible] AO FW CK Ca B9 B1 CP D6
attribute [local irreducible] Es Fb itemsN Do By Bk Cr Gr
attribute [local irreducible] X
theorem Rh (a b:Ai)(w:World)(ha:FW a.dot)(hb:FW b.dot):
  Calls prog 104 #[.agg #[.string ((a).item),.int .i64 (((a).dot).node),.int .i64 (((a).dot).life),.int .i64 (((a).dot).count),.int .i64 ((a).qty),.int .u64 ((a).price)],.agg #[.string ((b).item),.int .i64 (((b).dot).node),.int .i64 (((b).dot).life),.int .i64 (((b).dot).count),.int .i64 ((b).qty),.int .u64 ((b).price)]] w (AU (fun v w'=>v= .int .i64 (GC a b)∧As w w'∧Gr w w')):=by
 unfold FW at ha hb;obtain⟨ha1,ha2,ha3⟩:=ha;obtain⟨hb1,hb2,hb3⟩:=hb;have G0:=Gr.refl w;refine Af (n:=45) func104 rfl rfl rfl ?_;refine jG ?_;refine jR<|AD.boxG (v:= .agg #[.string ((a).item),.int .i64 (((a).dot).node),.int .i64 (((a).dot).life),.int .i64 (((a).dot).count),.int .i64 ((a).qty),.int .u64 ((a).price)]) rfl ?_;intro a3 a7 a4 a1 a8 hG_;replace a1:AI a7 a3 [.string ((a).item),.int .i64 (((a).dot).node),.int .i64 (((a).dot).life),.int .i64 (((a).dot).count),.int .i64 ((a).qty),.int .u64 ((a).price)] 89:=a1;have:w.heap.size≤a3:=a4;clear a4;have K0:=(a8:As w _);replace G0:=Gr.trans G0 hG_;clear hG_;refine jR<|AD.boxG (v:= .agg #[.string ((b).item),.int .i64 (((b).dot).node),.int .i64 (((b).dot).life),.int .i64 (((b).dot).count),.int .i64 ((b).qty),.int .u64 ((b).price)]) rfl ?_;intro a9 aa a2 a5 a6 hG_;replace a5:AI aa a9 [.string ((b).item),.int .i64 (((b).dot).node),.int .i64 (((b).dot).life),.int .i64 (((b).dot).count),.int .i64 ((b).qty),.int .u64 ((b).price)] 89:=a5;have aH:=Aj a1.lt a2;have:=Nat.le_trans K0.size a2;clear a2;replace G0:=Gr.trans G0 hG_;clear hG_;replace a1:=a1.ext a6;refine jG ?_;refine jR<|jC (JW (Any.strings_Compare cmpSL a.item b.item _)) ?_;rintro _ _ ⟨rfl,rfl⟩;refine jG ?_;refine jV (B6 rfl rfl Zo Zo) ?_;refine jG ?_;refine jV (B6 rfl rfl Zo Zo) ?_;refine jG ?_;refine jV (B6 rfl rfl Zo Zo) ?_;refine jR<|AD.buildSliceG ([(((a).dot).node)-(((b).dot).node),(((a).dot).life)-(((b).dot).life),(((a).dot).count)-(((b).dot).count)]:List Int) underlying116 ty3 rfl rfl Ze ?_;intro aI aJ ab a0 ac hG_;clear ab;replace G0:=Gr.trans G0 hG_;clear hG_;refine jV (Ay (c:=3) (BR underlying116 rfl) rfl) ?_;refine jG ?_;refine Al.unloop ?_;refine jG ?_;refine CE ?_;refine BP ?_;obtain⟨aK,aL,ad,ae,af,ag⟩:=a0.sl.el (i:=0) Zs;obtain rfl:(((a).dot).node)-(((b).dot).node)=ad:=Option.some.inj ae;refine jV (AQ underlying116 ty3 rfl rfl af Zs) ?_;refine jV (CD (v:= .int .i64 ((((a).dot).node)-(((b).dot).node))) (y:=(((a).dot).node)-(((b).dot).node)) ty3 rfl ag rfl) ?_;refine jG ?_;replace K0:=(K0.ext a6).ext ac;refine jF ?_ ?_
 ·intro hc41
  refine jG ?_;refine jV (Ay (c:=1) (Aq rfl rfl Zd Zd) Zd) ?_;refine jG ?_;refine Al.inLoop ?_;refine jG ?_;refine CE ?_;refine BP ?_;obtain⟨aM,aN,ah,ai,aj,ak⟩:=a0.sl.el (i:=1) Zs;obtain rfl:(((a).dot).life)-(((b).dot).life)=ah:=Option.some.inj ai;refine jV (AQ underlying116 ty3 rfl rfl aj Zs) ?_;refine jV (CD (v:= .int .i64 ((((a).dot).life)-(((b).dot).life))) (y:=(((a).dot).life)-(((b).dot).life)) ty3 rfl ak rfl) ?_;refine jG ?_;refine jF ?_ ?_
  ·intro hc41
   refine jG ?_;refine jV (Ay (c:=2) (Aq rfl rfl Zd Zd) Zd) ?_;refine jG ?_;refine Al.inLoop ?_;refine jG ?_;refine CE ?_;refine BP ?_;obtain⟨aO,aP,al,am,an,ao⟩:=a0.sl.el (i:=2) Zs;obtain rfl:(((a).dot).count)-(((b).dot).count)=al:=Option.some.inj am;refine jV (AQ underlying116 ty3 rfl rfl an Zs) ?_;refine jV (CD (v:= .int .i64 ((((a).dot).count)-(((b).dot).count))) (y:=(((a).dot).count)-(((b).dot).count)) ty3 rfl ao rfl) ?_;refine jG ?_;refine jF ?_ ?_
   ·intro hc41
    refine jG ?_;refine jV (Ay (c:=3) (Aq rfl rfl Zd Zd) Zd) ?_;refine jG ?_;refine Al.inLoop ?_;refine jG ?_;refine Al.condF rfl ?_;refine jG ?_;refine jJ func104 ?_;exact⟨_,rfl,by unfold GC Fb B9;(repeat' split)<;>first|rfl|omega,K0,G0⟩
   ·intro hc41
    refine jG ?_;refine jV (Ay (c:=3) (Aq rfl rfl Zd Zd) Zd) ?_;refine jG ?_;refine Al.inLoop ?_;refine jG ?_;refine Al.condF rfl ?_;refine jG ?_;refine jJ func104 ?_;exact⟨_,rfl,by unfold GC Fb B9;(repeat' split)<;>first|rfl|omega,K0,G0⟩
  ·intro hc41
   refine jG ?_;refine jV (Ay (c:=2) (Aq rfl rfl Zd Zd) Zd) ?_;refine jG ?_;refine Al.inLoop ?_;refine jG ?_;refine CE ?_;refine BP ?_;obtain⟨aQ,aR,ap,aq,ar,au⟩:=a0.sl.el (i:=2) Zs;obtain rfl:(((a).dot).count)-(((b).dot).count)=ap:=Option.some.inj aq;refine jV (AQ underlying116 ty3 rfl rfl ar Zs) ?_;refine jV (CD (v:= .int .i64 ((((a).dot).count)-(((b).dot).count))) (y:=(((a).dot).count)-(((b).dot).count)) ty3 rfl au rfl) ?_;refine jG ?_;refine jF ?_ ?_
   ·intro hc41
    refine jG ?_;refine jV (Ay (c:=3) (Aq rfl rfl Zd Zd) Zd) ?_;refine jG ?_;refine Al.inLoop ?_;refine jG ?_;refine Al.condF rfl ?_;refine jG ?_;refine jJ func104 ?_;exact⟨_,rfl,by unfold GC Fb B9;(repeat' split)<;>first|rfl|omega,K0,G0⟩
   ·intro hc41
    refine jG ?_;refine jV (Ay (c:=3) (Aq rfl rfl Zd Zd) Zd) ?_;refine jG ?_;refine Al.inLoop ?_;refine jG ?_;refine Al.condF rfl ?_;refine jG ?_;refine jJ func104 ?_;exact⟨_,rfl,by unfold GC Fb B9;(repeat' split)<;>first|rfl|omega,K0,G0⟩
 ·intro hc41
  refine jG ?_;refine jV (Ay (c:=1) (Aq rfl rfl Zd Zd) Zd) ?_;refine jG ?_;refine Al.inLoop ?_;refine jG ?_;refine CE ?_;refine BP ?_;obtain⟨aS,aT,av,aw,ax,ay⟩:=a0.sl.el (i:=1) Zs;obtain rfl:(((a).dot).life)-(((b).dot).life)=av:=Option.some.inj aw;refine jV (AQ underlying116 ty3 rfl rfl ax Zs) ?_;refine jV (CD (v:= .int .i64 ((((a).dot).life)-(((b).dot).life))) (y:=(((a).dot).life)-(((b).dot).life)) ty3 rfl ay rfl) ?_;refine jG ?_;refine jF ?_ ?_
  ·intro hc41
   refine jG ?_;refine jV (Ay (c:=2) (Aq rfl rfl Zd Zd) Zd) ?_;refine jG ?_;refine Al.inLoop ?_;refine jG ?_;refine CE ?_;refine BP ?_;obtain⟨aU,aV,az,aA,aB,aC⟩:=a0.sl.el (i:=2) Zs;obtain rfl:(((a).dot).count)-(((b).dot).count)=az:=Option.some.inj aA;refine jV (AQ underlying116 ty3 rfl rfl aB Zs) ?_;refine jV (CD (v:= .int .i64 ((((a).dot).count)-(((b).dot).count))) (y:=(((a).dot).count)-(((b).dot).count)) ty3 rfl aC rfl) ?_;refine jG ?_;refine jF ?_ ?_
   ·intro hc41
    refine jG ?_;refine jV (Ay (c:=3) (Aq rfl rfl Zd Zd) Zd) ?_;refine jG ?_;refine Al.inLoop ?_;refine jG ?_;refine Al.condF rfl ?_;refine jG ?_;refine jJ func104 ?_;exact⟨_,rfl,by unfold GC Fb B9;(repeat' split)<;>first|rfl|omega,K0,G0⟩
   ·intro hc41
    refine jG ?_;refine jV (Ay (c:=3) (Aq rfl rfl Zd Zd) Zd) ?_;refine jG ?_;refine Al.inLoop ?_;refine jG ?_;refine Al.condF rfl ?_;refine jG ?_;refine jJ func104 ?_;exact⟨_,rfl,by unfold GC Fb B9;(repeat' split)<;>first|rfl|omega,K0,G0⟩
  ·intro hc41
   refine jG ?_;refine jV (Ay (c:=2) (Aq rfl rfl Zd Zd) Zd) ?_;refine jG ?_;refine Al.inLoop ?_;refine jG ?_;refine CE ?_;refine BP ?_;obtain⟨aW,aX,aD,aE,aF,aG⟩:=a0.sl.el (i:=2) Zs;obtain rfl:(((a).dot).count)-(((b).dot).count)=aD:=Option.some.inj aE;refine jV (AQ underlying116 ty3 rfl rfl aF Zs) ?_;refine jV (CD (v:= .int .i64 ((((a).dot).count)-(((b).dot).count))) (y:=(((a).dot).count)-(((b).dot).count)) ty3 rfl aG rfl) ?_;refine jG ?_;refine jF ?_ ?_
   ·intro hc41
    refine jG ?_;refine jV (Ay (c:=3) (Aq rfl rfl Zd Zd) Zd) ?_;refine jG ?_;refine Al.inLoop ?_;refine jG ?_;refine Al.condF rfl ?_;refine jG ?_;refine jJ func104 ?_;exact⟨_,rfl,by unfold GC Fb B9;(repeat' split)<;>first|rfl|omega,K0,G0⟩
   ·intro hc41
    refine jG ?_;refine jV (Ay (c:=3) (Aq rfl rfl Zd Zd) Zd) ?_;refine jG ?_;refine Al.inLoop ?_;refine jG ?_;refine Al.condF rfl ?_;refine jG ?_;refine jJ func104 ?_;exact⟨_,rfl,by unfold GC Fb B9;(repeat' split)<;>first|rfl|omega,K0,G0⟩
theorem SG (a b:Ai)(w:World)(ha:FW a.dot)(hb:FW b.dot):Calls prog 104 #[.agg #[.string ((a).item),.int .i64 (((a).dot).node),.int .i64 (((a).dot).life),.int .i64 (((a).dot).count),.int .i64 ((a).qty),.int .u64 ((a).price)],.agg #[.string ((b).item),.int .i64 (((b).dot).node),.int .i64 (((b).dot).life),.int .i64 (((b).dot).count),.int .i64 ((b).qty),.int .u64 ((b).price)]] w (AU fun v w'=>v= .int .i64 (GC a b)∧As w w'):=(Rh a b w ha hb).mono fun e w' ⟨v,h1,h2,h3,_⟩=>⟨v,h1,h2,h3⟩
theorem Pf (a b:Ai)(w:World):
  Calls prog 41 #[.agg #[.string ((a).item),.int .i64 (((a).dot).node),.int .i64 (((a).dot).life),.int .i64 (((a).dot).count),.int .i64 ((a).qty),.int .u64 ((a).price)],.agg #[.string ((b).item),.int .i64 (((b).dot).node),.int .i64 (((b).dot).life),.int .i64 (((b).dot).count),.int .i64 ((b).qty),.int .u64 ((b).price)]] w (AU (fun v w'=>v= .bool (decide (Es b a))∧As w w')):=by
 refine Af (n:=20) func41 rfl rfl rfl ?_;refine jG ?_;refine jR<|jB ?_;intro a4 a7 a2 a0 a5;have:w.heap.size≤a4:=a2;clear a2;have K0:=(a5:As w _);refine jR<|jB ?_;intro a8 a9 a1 aa a3;have ab:=Aj a0.lt a1;have:=Nat.le_trans K0.size a1;clear a1;replace a0:=a0.ext a3;refine jG ?_;refine jV (Mt rfl rfl) ?_;refine jG ?_;replace K0:=K0.ext a3;refine jF ?_ ?_
 ·intro hc9
  refine jG ?_;refine jV (SF rfl rfl) ?_;refine jG ?_;refine jJ func41 ?_;exact⟨_,rfl,congrArg Value.bool (decide_eq_decide.2 ⟨fun h=>by unfold Es;exact .inl h,fun h=>by unfold Es at h;exact h.elim id (fun h2=>absurd h2.1.symm hc9)⟩),K0⟩
 ·intro hc9
  refine jG ?_;refine jR<|jC (JL ((b).dot) ((a).dot) _) ?_;rintro _ ac ⟨rfl,a6⟩;refine jG ?_;refine jJ func41 ?_;replace K0:=K0.ext a6;exact⟨_,rfl,congrArg Value.bool (decide_eq_decide.2 ⟨fun h=>by unfold Es;exact .inr ⟨hc9.symm,h⟩,fun h=>by unfold Es at h;exact h.elim (fun h2=>absurd h2 (by rw[hc9];exact HC _)) And.right⟩),K0⟩
theorem JX (a:Option Addr)(es:List Ai)(c:Nat)(w:World)(hs:At w a es)(hl:es.length≤4294967295):
  Calls prog 42 #[.slice a es.length c] w (AU (fun v w'=>v= .int .i64 ((itemsN es:Nat):Int)∧As w w')):=by
 refine Af (n:=30) func42 rfl rfl rfl ?_;refine jG ?_;refine Al.loop (ι:=Nat) (fun i ρ' w'=>AG ρ' [(0,.slice a es.length c),(3,.int .i64 ((itemsN (es.take i):Nat):Int)),(6,.slice a es.length c),(7,.int .i64 ((es.length:Nat):Int)),(8,.int .i64 ((i:Nat):Int))]∧As w w'∧(i≤es.length)) (fun i=>es.length-i) 0 ?_ ?_
 ·rw[KU]
  refine⟨⟨rfl,rfl,rfl,rfl,rfl,trivial⟩,(Ao.refl _ w),?_⟩
  ·omega
 rintro i ac ad ⟨a5,K0,hi⟩ ih1;obtain⟨ρ₀,rfl⟩:=a5.ex;clear a5;refine jG ?_;refine jF ?_ ?_
 ·intro hc9
  refine Cc ?_;obtain⟨ae,af,x,hx,a7,a1⟩:=hs.eo i;have hc_7_lt:=a1.lt;refine jV (AQ underlying23 ty89 rfl rfl a7 Zl) ?_;replace a1:=a1.ext K0;refine jG ?_;refine jR<|jA ?_;intro ag ah a3 a0 a8;have ai:=Aj a1.lt a3;have:=Nat.le_trans K0.size a3;clear a3;refine jG ?_;refine jR<|jS a0 ?_;intro aj a0 a9;refine BP ?_;replace K0:=(K0.ext a8).n1 a9;by_cases hB:i=0
  ·refine Al.drawR ?_
   intro ak a6;refine Cc ?_;refine jD (A3 (BQ rfl rfl) Zi) ?_;refine jG ?_;refine jD (Ba (b:=true) (e:=false) rfl rfl rfl) ?_;refine jG ?_;refine CE ?_;have hle:=FY es i;refine jG ?_;refine jV (Ay (c:=(((itemsN (es.take i))+1:Nat):Int)) (Aq rfl rfl Zo Zo) rfl) ?_;refine jG ?_;refine jV (Ay (c:=((i+1:Nat):Int)) (Aq rfl rfl Zo Zo) rfl) ?_;refine jG ?_;have e:=KS hx hB;refine ih1 (i+1) _ _ ?_ Zo;rw[e];replace a0:=a0.ext a6;replace K0:=K0.ext a6;refine⟨⟨rfl,rfl,rfl,rfl,rfl,trivial⟩,K0,?_⟩
   ·omega
  ·obtain⟨al,aa,y,hy,ab,a2⟩:=hs.el (i:=(((i:Nat):Int)-1).toNat) Zl
   have hc_25_lt:=a2.lt;refine Al.drawR ?_;intro am a4;refine Cc ?_;refine jD (AR (BQ rfl rfl) Zi) ?_;refine jG ?_;refine jE ?_ (hx:=by exact fun hg=>(B6 rfl rfl Zo Zo));refine jE ?_ (hx:=by exact fun hg=>(C7 underlying23 ty89 rfl rfl ab Zo Zl));refine jE ?_ (hx:=by exact fun hg=>(CS (o':=aa+(((i:Nat):Int)-1).toNat*6+0) underlying89 rfl ty9 rfl rfl rfl));replace a2:=(a2.ext K0).ext a4;refine jE ?_ (hx:=by exact fun hg=>(Dl ty9 rfl rfl (a2.field (i:=0) rfl)));replace a0:=a0.ext a4;refine jG ?_;refine jE ?_ (hx:=by exact fun hg=>(Mt rfl rfl));refine jD (Bi rfl rfl rfl) ?_;refine jG ?_;replace K0:=K0.ext a4;refine jF ?_ ?_
   ·intro hc25
    have hle:=FY es i;refine jG ?_;refine jV (Ay (c:=(((itemsN (es.take i))+1:Nat):Int)) (Aq rfl rfl Zo Zo) rfl) ?_;refine jG ?_;refine jV (Ay (c:=((i+1:Nat):Int)) (Aq rfl rfl Zo Zo) rfl) ?_;refine jG ?_;have e:=LV hx Zo (by rw[←DL Zo];exact hy) hc25;refine ih1 (i+1) _ _ ?_ Zo;rw[e];refine⟨⟨rfl,rfl,rfl,rfl,rfl,trivial⟩,K0,?_⟩
    ·omega
   ·intro hc25
    refine jG ?_;refine jV (Ay (c:=((i+1:Nat):Int)) (Aq rfl rfl Zo Zo) rfl) ?_;refine jG ?_;have e:=KT hx Zo (by rw[←DL Zo];exact hy) hc25;refine ih1 (i+1) _ _ ?_ Zo;rw[e];refine⟨⟨rfl,rfl,rfl,rfl,rfl,trivial⟩,K0,?_⟩
    ·omega
 ·intro hc9
  refine jG ?_;refine jJ func42 ?_;exact⟨_,rfl,by rw[List.take_of_length_le Zo],K0⟩
end Go.Proofs.YtocgdeefgohdhaaGreat
namespace Go.Proofs.YtocgdeefgohdhaaGreat
open Go.Proofs.Tryz
attribute [local irreducible] RD RS AD RL RA RT BH Al
theorem HF {l:List Ai}{x:Ai}{j:Nat}(hno:Ep (fun y=>decide (y.dot=x.dot)) l j)(hj:l.length≤j):∀y∈l,y.dot≠x.dot:=fun y hy=>by
 obtain⟨q,hq,rfl⟩:=List.getElem_of_mem hy
 exact of_decide_eq_false (hno q _ Zo (List.getElem?_eq_getElem hq))
theorem Fd {ms:List Ac}{cl:List Ah}{es:List Ai}{x:Ai}{i:Nat}{e:Int}(h:Cr ms cl=true)(h2:es.length≤64)(h0:By ms cl es i=0)(hx:es[i]? =some x)(he:Do ms cl (es.take i) x=e)(hn:e≠0):Bk ms cl es=e:=by
 rw[MU h h2 h0 hx (by rw[he];exact hn),he]
theorem Hp (ms:List Ac)(cl:List Ah)(es:List Ai):By ms cl es 0=0:=rfl
theorem MX {es:List Ai}{i:Nat}{x y:Ai}(hi:i≤es.length)(hy:es[i-1]? =some y)(h:Es y x):∀z,(es.take i).getLast? =some z→Es z x:=fun z hz=>by
 have e:=(FX hi hz).2
 rw[hy]at e;cases e;exact h
theorem Pg {es:List Ai}{i:Nat}{x:Ai}(hi:i≤es.length)(h:¬0<i):∀z,(es.take i).getLast? =some z→Es z x:=fun z hz=>absurd (FX hi hz).1 h
def EE (es:List Ai):Prop:=∀x∈es,(0≤x.price∧x.price<18446744073709551616)∧x.item.size≤4294967295
theorem MY {α:Type}{l:List α}{i:Nat}(h:i≤l.length):(l.take i).length=i:=by rw[List.length_take];omega
attribute [local irreducible] AO FW CK Ca B9 B1 CP D6
attribute [local irreducible] Es Fb itemsN Do By Bk Cr Gr Cp B2
attribute [local irreducible] X
theorem RW (am:Option Addr)(ms:List Ac)(cm:Nat)(ac:Option Addr)(cl:List Ah)(cc:Nat)(ae:Option Addr)(es:List Ai)(ce:Nat)(i:Nat)(x0:Ai)(w:World)(hcap:es.length≤ce)(hs:At w am ms)(ht:At w ac cl)(hse:At w ae es)(hl:ms.length≤4294967295)(hl2:cl.length≤4294967295)(hl3:es.length≤4294967295)(hcan:Cr ms cl=true)(h0:By ms cl es i=0)(hx0:es[i]? =some x0)(hp:0≤x0.price∧x0.price<18446744073709551616):
  Calls prog 87 #[.agg #[.slice ae es.length ce,.slice am ms.length cm,.slice ac cl.length cc],.int .i64 ((i:Nat):Int)] w (AU (fun v w'=>v= .int .i64 (Do ms cl (es.take i) x0)∧As w w')):=by
 have hil:=(List.getElem?_eq_some_iff.1 hx0).1;have hcx:=C0.1 hcan;have htl:=MY (Nat.le_of_lt hil);refine Af (n:=69) func87 rfl rfl rfl ?_;refine jG ?_;refine jR<|jB ?_;intro a8 aD ap a1 ay;have:w.heap.size≤a8:=ap;clear ap;have K0:=(ay:As w _);refine EB ?_;obtain⟨aE,aF,x,hx,az,a4⟩:=hse.eo i;have hc_9_lt:=a4.lt;refine jV (AQ underlying23 ty89 rfl rfl az Zl) ?_;replace a4:=a4.ext K0;refine jG ?_;refine jR<|jA ?_;intro a5 aG a6 a0 aq;have aH:=Aj a1.lt a6;have aI:=Aj a4.lt a6;have:=Nat.le_trans K0.size a6;clear a6;refine jR<|jS a0 ?_;intro aJ a0 ar;obtain rfl:x=x0:=by rw[hx0]at hx;exact(Option.some.inj hx).symm
 clear hx;refine jG ?_;refine jR<|jC (SE ((x).item) _) ?_;rintro _ aK ⟨rfl,a9⟩;refine jG ?_;replace a1:=((a1.ext aq).kp ar).ext a9;replace K0:=((K0.ext aq).n1 ar).ext a9;replace a0:=a0.ext a9;refine jF ?_ ?_
 ·intro hc13
  refine jG ?_;refine jJ func87 ?_;exact⟨_,rfl,by rw[G5 hc13],K0⟩
 ·intro hc13
  refine jG ?_;refine jV (Ba rfl rfl rfl) ?_;refine jG ?_;refine jF ?_ ?_
  ·intro hc18
   refine jG ?_;refine jJ func87 ?_;exact⟨_,rfl,by rw[Io hc13 Zo],K0⟩
  ·intro hc18
   refine jG ?_;refine jR<|jC (RU ((x).price) _ hp.1 hp.2) ?_;rintro _ aL ⟨rfl,aa⟩;refine jG ?_;replace a1:=a1.ext aa;replace a0:=a0.ext aa;replace K0:=K0.ext aa;refine jF ?_ ?_
   ·intro hc27
    refine jG ?_;refine jJ func87 ?_;exact⟨_,rfl,by rw[F8 hc13 Zo hc27],K0⟩
   ·intro hc27
    refine BP ?_;by_cases hA:CP ms cl x.dot
    ·by_cases hB:0<i
     ·refine Al.drawS [] [0,1001,2,1003,2004,5,6,7,8,9,10,1011,12,13,14,1016,2015,2017,18,19,20,21] ?_
      intro aM ab;replace a1:=a1.ext ab;replace a0:=a0.ext ab;refine jM (jb a1 (jb a0 Jn)) ?_;refine jG ?_;replace K0:=K0.ext ab;refine jU rfl<|jC (Gv am ms cm ac cl cc ((x).dot) _ (hs.ext K0) (ht.ext K0) Zo Zo) ?_;rintro _ aN ⟨rfl,ad⟩;replace a1:=a1.ext ad;replace a0:=a0.ext ad;refine BP ?_;refine jP ?_ (hx:=by exact fun _=>(AR (AS rfl) (by simp[hA])));refine CU ?_;refine jQ ?_ (hx:=by exact fun _ hg=>(A3 (DH rfl rfl) Zi));refine jG ?_;refine jQ ?_ (hx:=by exact fun _ hg=>(B6 rfl rfl Zo Zo));obtain⟨aO,aP,y,hy,aA,a7⟩:=hse.el (i:=(((i:Nat):Int)-1).toNat) Zl;have hc_32_lt:=a7.lt;replace K0:=K0.ext ad;refine jQ ?_ (hx:=by exact fun _ hg=>(C7 underlying23 ty89 rfl rfl aA Zo Zl));refine jG ?_;replace a7:=a7.ext K0;refine jX rfl<|jO (CD (v:= .agg #[.string ((y).item),.int .i64 (((y).dot).node),.int .i64 (((y).dot).life),.int .i64 (((y).dot).count),.int .i64 ((y).qty),.int .u64 ((y).price)]) (y:=y) ty89 rfl a7 rfl) ?_;refine jG ?_;refine jX rfl<|jC (SG y x _ (hcx.cov (firstE_all h0 _ y Zo hy).cov).sm (hcx.cov hA).sm) ?_;rintro _ aQ ⟨rfl,af⟩;replace a1:=a1.ext af;replace a0:=a0.ext af;refine jG ?_;refine jQ ?_ (hx:=by exact fun _ hg=>(BA rfl rfl rfl));refine jP ?_ (hx:=by exact fun _=>(Bi rfl rfl rfl));refine jG ?_;replace K0:=K0.ext af;refine jF ?_ ?_
      ·intro hc32
       refine jG ?_;refine jJ func87 ?_;exact⟨_,rfl,by rw[CQ hc13 Zo hc27 (.inr (.inl ⟨y,EW hB (by rw[←DL Zo];exact hy),(QE.1 hc32)⟩))],K0⟩
      ·intro hc32
       refine jG ?_;refine jV (EN (m':=(es.take i).length) (BL underlying23 ty89 rfl rfl Zo) Zt) ?_;refine jG ?_;refine Al.loop (ι:=Nat) (fun j ρ' w'=>AG ρ' [(5,jp a5),(57,.slice ae ((es.take i).length) ce),(58,.int .i64 (((es.take i).length:Nat):Int)),(59,.int .i64 ((j:Nat):Int))]∧As w w'∧(AI w' a8 [.slice ae es.length ce,.slice am ms.length cm,.slice ac cl.length cc] 29)∧(AI w' a5 [.string ((x).item),.int .i64 (((x).dot).node),.int .i64 (((x).dot).life),.int .i64 (((x).dot).count),.int .i64 ((x).qty),.int .u64 ((x).price)] 89)∧(j≤(es.take i).length)∧(Ep (fun y=>decide (y.dot=x.dot)) (es.take i) j)) (fun j=>(es.take i).length-j) 0 ?_ ?_
       ·refine⟨⟨rfl,rfl,rfl,rfl,trivial⟩,K0,a1,a0,?_,?_⟩
        ·omega
        ·exact Ep.zero _ _
       clear a1 a0;clear K0;rintro j aR aS ⟨au,K0,a1,a0,hj,hno⟩ ih1;obtain⟨ρ₀,rfl⟩:=au.ex;clear au;refine jG ?_;refine jF ?_ ?_
       ·intro hc60
        obtain⟨aT,aU,z,hz,aV,aB⟩:=((hse.ext K0).take i).eo j;refine jG ?_;refine jR<|jA ?_;intro aW aX a2 av ag;have aY:=Aj a1.lt a2;have aZ:=Aj a0.lt a2;have b0:=Aj aB.lt a2;have:=Nat.le_trans K0.size a2;clear a2;refine jR<|jS av ?_;intro b1 av ah;replace a0:=(a0.ext ag).kp ah;refine jG ?_;refine jV (Ev Zk rfl rfl (CF ((z).dot) ((x).dot))) ?_;refine jG ?_;replace a1:=(a1.ext ag).kp ah;replace K0:=(K0.ext ag).n1 ah;refine jF ?_ ?_
        ·intro hc67
         refine jG ?_;refine jJ func87 ?_;exact⟨_,rfl,by rw[CQ hc13 Zo hc27 (.inr (.inr ⟨z,AT hz,hc67⟩))],K0⟩
        ·intro hc67
         refine jG ?_;refine jV (Ay (c:=((j+1:Nat):Int)) (Aq rfl rfl Zo Zo) rfl) ?_;refine jG ?_;refine ih1 (j+1) _ _ ?_ Zo;refine⟨⟨rfl,rfl,rfl,rfl,trivial⟩,K0,a1,a0,?_,?_⟩
         ·omega
         ·exact hno.step hz (decide_eq_false hc67)
       ·intro hc60
        refine jG ?_;refine jJ func87 ?_;exact⟨_,rfl,by rw[GD hc13 Zo hc27 hA (MX Zo (by rw[←DL Zo];exact hy) (D7.1 Zo)) (HF hno Zo)],K0⟩
     ·refine Al.drawS [] [0,1001,2,1003,2004,5,6,7,8,9,10,11,12,13,14,15,16,2017,18,19,20,21] ?_
      intro b2 ai;replace a1:=a1.ext ai;replace a0:=a0.ext ai;refine jM (jb a1 (jb a0 Jn)) ?_;refine jG ?_;replace K0:=K0.ext ai;refine jU rfl<|jC (Gv am ms cm ac cl cc ((x).dot) _ (hs.ext K0) (ht.ext K0) Zo Zo) ?_;rintro _ b3 ⟨rfl,aj⟩;replace a1:=a1.ext aj;replace a0:=a0.ext aj;refine BP ?_;refine jP ?_ (hx:=by exact fun _=>(AR (AS rfl) (by simp[hA])));refine CU ?_;refine jQ ?_ (hx:=by exact fun _ hg=>(AR (DH rfl rfl) Zi));refine jG ?_;refine jY ?_;refine jG ?_;refine jQ ?_ (hx:=by exact fun _ hg=>(AN (b:=false) (e:=false) rfl rfl rfl));refine jP ?_ (hx:=by exact fun _=>(Bi rfl rfl rfl));refine jG ?_;refine Al.condF rfl ?_;refine jG ?_;refine jV (EN (m':=(es.take i).length) (BL underlying23 ty89 rfl rfl Zo) Zt) ?_;refine jG ?_;replace K0:=K0.ext aj;refine Al.loop (ι:=Nat) (fun j ρ' w'=>AG ρ' [(5,jp a5),(57,.slice ae ((es.take i).length) ce),(58,.int .i64 (((es.take i).length:Nat):Int)),(59,.int .i64 ((j:Nat):Int))]∧As w w'∧(AI w' a8 [.slice ae es.length ce,.slice am ms.length cm,.slice ac cl.length cc] 29)∧(AI w' a5 [.string ((x).item),.int .i64 (((x).dot).node),.int .i64 (((x).dot).life),.int .i64 (((x).dot).count),.int .i64 ((x).qty),.int .u64 ((x).price)] 89)∧(j≤(es.take i).length)∧(Ep (fun y=>decide (y.dot=x.dot)) (es.take i) j)) (fun j=>(es.take i).length-j) 0 ?_ ?_
      ·refine⟨⟨rfl,rfl,rfl,rfl,trivial⟩,K0,a1,a0,?_,?_⟩
       ·omega
       ·exact Ep.zero _ _
      clear a1 a0;clear K0;rintro j b4 b5 ⟨aw,K0,a1,a0,hj,hno⟩ ih2;obtain⟨ρ₀,rfl⟩:=aw.ex;clear aw;refine jG ?_;refine jF ?_ ?_
      ·intro hc60
       obtain⟨b6,b7,z,hz,b8,aC⟩:=((hse.ext K0).take i).eo j;refine jG ?_;refine jR<|jA ?_;intro b9 ba a3 ax ak;have bb:=Aj a1.lt a3;have bc:=Aj a0.lt a3;have be:=Aj aC.lt a3;have:=Nat.le_trans K0.size a3;clear a3;refine jR<|jS ax ?_;intro bg ax al;replace a0:=(a0.ext ak).kp al;refine jG ?_;refine jV (Ev Zk rfl rfl (CF ((z).dot) ((x).dot))) ?_;refine jG ?_;replace a1:=(a1.ext ak).kp al;replace K0:=(K0.ext ak).n1 al;refine jF ?_ ?_
       ·intro hc67
        refine jG ?_;refine jJ func87 ?_;exact⟨_,rfl,by rw[CQ hc13 Zo hc27 (.inr (.inr ⟨z,AT hz,hc67⟩))],K0⟩
       ·intro hc67
        refine jG ?_;refine jV (Ay (c:=((j+1:Nat):Int)) (Aq rfl rfl Zo Zo) rfl) ?_;refine jG ?_;refine ih2 (j+1) _ _ ?_ Zo;refine⟨⟨rfl,rfl,rfl,rfl,trivial⟩,K0,a1,a0,?_,?_⟩
        ·omega
        ·exact hno.step hz (decide_eq_false hc67)
      ·intro hc60
       refine jG ?_;refine jJ func87 ?_;exact⟨_,rfl,by rw[GD hc13 Zo hc27 hA (Pg Zo hB) (HF hno Zo)],K0⟩
    ·refine Al.drawS [] [0,1001,2,1003,2004,5,6,7,8,9,10,11,12,13,14,15,16,2017,18,19,20,21] ?_
     intro bh an;replace a1:=a1.ext an;replace a0:=a0.ext an;refine jM (jb a1 (jb a0 Jn)) ?_;refine jG ?_;replace K0:=K0.ext an;refine jU rfl<|jC (Gv am ms cm ac cl cc ((x).dot) _ (hs.ext K0) (ht.ext K0) Zo Zo) ?_;rintro _ bi ⟨rfl,ao⟩;replace a1:=a1.ext ao;replace a0:=a0.ext ao;refine BP ?_;refine jP ?_ (hx:=by exact fun _=>(A3 (AS rfl) (by simp[hA])));refine jG ?_;refine jY ?_;refine jG ?_;refine jP ?_ (hx:=by exact fun _=>(Ba (b:=true) (e:=false) rfl rfl rfl));refine jG ?_;refine CE ?_;refine jG ?_;refine jJ func87 ?_;replace K0:=K0.ext ao;exact⟨_,rfl,by rw[CQ hc13 Zo hc27 (.inl hA)],K0⟩
theorem KV (am:Option Addr)(ms:List Ac)(cm:Nat)(ac:Option Addr)(cl:List Ah)(cc:Nat)(ae:Option Addr)(es:List Ai)(ce:Nat)(w:World)(hcap:es.length≤ce)(hs:At w am ms)(ht:At w ac cl)(hse:At w ae es)(hl:ms.length≤4294967295)(hl2:cl.length≤4294967295)(hl3:es.length≤4294967295)(hb:EE es):
  Calls prog 10 #[.agg #[.slice ae es.length ce,.slice am ms.length cm,.slice ac cl.length cc]] w (AU (fun v w'=>v= .int .i64 (Bk ms cl es)∧As w w')):=by
 refine Af (n:=80) func10 rfl rfl rfl ?_;refine jG ?_;refine jR<|jB ?_;intro a2 aH aq a0 aB;have:w.heap.size≤a2:=aq;clear aq;have K0:=(aB:As w _);refine jG ?_;refine jR<|jC (OM am ms cm ac cl cc _ (hs.ext K0) (ht.ext K0) Zo Zo) ?_;rintro _ aI ⟨rfl,ar⟩;refine jG ?_;replace a0:=a0.ext ar;replace K0:=K0.ext ar;refine jF ?_ ?_
 ·intro hc10
  refine jG ?_;refine jJ func10 ?_;exact⟨_,rfl,by rw[Ip hc10],K0⟩
 ·intro hc10
  have hcan:Cr ms cl=true:=by simpa using hc10
  refine jG ?_;refine jF ?_ ?_
  ·intro hc14
   refine jG ?_;refine jJ func10 ?_;exact⟨_,rfl,by rw[G6 hcan Zo],K0⟩
  ·intro hc14
   refine jG ?_;refine Al.loop (ι:=Nat) (fun i ρ' w'=>AG ρ' [(1,jp a2),(16,.slice ae es.length ce),(17,.int .i64 ((es.length:Nat):Int)),(18,.int .i64 ((i:Nat):Int))]∧As w w'∧(AI w' a2 [.slice ae es.length ce,.slice am ms.length cm,.slice ac cl.length cc] 29)∧(i≤es.length)∧(By ms cl es i=0)) (fun i=>es.length-i) 0 ?_ ?_
   ·refine⟨⟨rfl,rfl,rfl,rfl,trivial⟩,K0,a0,?_,?_⟩
    ·omega
    ·exact Hp _ _ _
   clear a0;clear K0;rintro i aJ aK ⟨au,K0,a0,hi,h0⟩ ih1;obtain⟨ρ₀,rfl⟩:=au.ex;clear au;refine jG ?_;refine jF ?_ ?_
   ·intro hc19
    refine Cc ?_;obtain⟨aL,aM,x,hx,aC,a5⟩:=hse.eo i;have hc_14_lt:=a5.lt;refine jV (AQ underlying23 ty89 rfl rfl aC Zl) ?_;replace a5:=a5.ext K0;refine jG ?_;refine jR<|jA ?_;intro a6 aN a7 a1 av;have aO:=Aj a0.lt a7;have aP:=Aj a5.lt a7;have:=Nat.le_trans K0.size a7;clear a7;refine jG ?_;refine jR<|jS a1 ?_;intro aQ a1 aw;have hcx:=C0.1 hcan;have htl:=MY (l:=es) (i:=i) Zo;have hnm:=(hb x (AT hx)).2;refine jG ?_;refine jR<|jC (QD _ _ Zo) ?_;rintro _ aR ⟨rfl,a9⟩;refine jG ?_;replace a0:=((a0.ext av).kp aw).ext a9;replace K0:=((K0.ext av).n1 aw).ext a9;replace a1:=a1.ext a9;refine jF ?_ ?_
    ·intro hc23
     refine jG ?_;refine jJ func10 ?_;exact⟨_,rfl,by rw[Fd hcan Zo h0 hx (G5 hc23) Zd],K0⟩
    ·intro hc23
     refine jG ?_;refine jR<|jC (Ta _ _ _) ?_;rintro _ aS ⟨rfl,aa⟩;refine jG ?_;replace a0:=a0.ext aa;replace a1:=a1.ext aa;replace K0:=K0.ext aa;refine jF ?_ ?_
     ·intro hc28
      refine jG ?_;refine jJ func10 ?_;exact⟨_,rfl,by rw[Fd hcan Zo h0 hx (Io hc23 Zo) Zd],K0⟩
     ·intro hc28
      refine jG ?_;refine jR<|jC (Pc _ _) ?_;rintro _ aT ⟨rfl,ab⟩;refine jG ?_;replace a0:=a0.ext ab;replace a1:=a1.ext ab;replace K0:=K0.ext ab;refine jF ?_ ?_
      ·intro hc33
       refine jG ?_;refine jJ func10 ?_;exact⟨_,rfl,by rw[Fd hcan Zo h0 hx (F8 hc23 Zo hc33) Zd],K0⟩
      ·intro hc33
       refine BP ?_;by_cases hA:CP ms cl x.dot
       ·by_cases hB:0<i
        ·refine Al.drawS [] [0,1001,2,1003,2004,5,6,7,8,9,1010,11,1012,13,14,15,2016,2017,18,19,20,21] ?_
         intro aU ad;replace a0:=a0.ext ad;replace a1:=a1.ext ad;refine jM (jb a0 (jb a1 Jn)) ?_;refine jG ?_;replace K0:=K0.ext ad;refine jU rfl<|jC (Fx am ms cm ac cl cc ((x).dot) _ (hs.ext K0) (ht.ext K0) Zo Zo) ?_;rintro _ aV ⟨rfl,af⟩;replace a0:=a0.ext af;replace a1:=a1.ext af;refine BP ?_;refine jP ?_ (hx:=by exact fun _=>(AR (AS rfl) (by rw[decide_eq_true (hcx.covR.2 hA)];rfl)));refine CU ?_;refine jQ ?_ (hx:=by exact fun _ hg=>(A3 (DH rfl rfl) Zi));refine jG ?_;refine jQ ?_ (hx:=by exact fun _ hg=>(B6 rfl rfl Zo Zo));obtain⟨aW,aX,y,hy,aD,a8⟩:=hse.el (i:=(((i:Nat):Int)-1).toNat) Zl;have hc_39_lt:=a8.lt;replace K0:=K0.ext af;refine jQ ?_ (hx:=by exact fun _ hg=>(C7 underlying23 ty89 rfl rfl aD Zo Zl));replace a8:=a8.ext K0;refine jX rfl<|jO (CD (v:= .agg #[.string ((y).item),.int .i64 (((y).dot).node),.int .i64 (((y).dot).life),.int .i64 (((y).dot).count),.int .i64 ((y).qty),.int .u64 ((y).price)]) (y:=y) ty89 rfl a8 rfl) ?_;refine jG ?_;refine jX rfl<|jC (Pf x y _) ?_;rintro _ aY ⟨rfl,ag⟩;replace a0:=a0.ext ag;replace a1:=a1.ext ag;refine jG ?_;refine jQ ?_ (hx:=by exact fun _ hg=>(BA rfl rfl rfl));refine jP ?_ (hx:=by exact fun _=>(Bi rfl rfl rfl));refine jG ?_;replace K0:=K0.ext ag;refine jF ?_ ?_
         ·intro hc38
          refine jG ?_;refine jJ func10 ?_;exact⟨_,rfl,by rw[Fd hcan Zo h0 hx (CQ hc23 Zo hc33 (.inr (.inl ⟨y,EW hB (by rw[←DL Zo];exact hy),hc38⟩))) Zd],K0⟩
         ·intro hc38
          refine jG ?_;refine jV (EN (m':=(es.take i).length) (BL underlying23 ty89 rfl rfl Zo) Zt) ?_;refine jG ?_;refine Al.loop (ι:=Nat) (fun j ρ' w'=>AG ρ' [(1,jp a2),(4,jp a6),(16,.slice ae es.length ce),(17,.int .i64 ((es.length:Nat):Int)),(18,.int .i64 ((i:Nat):Int)),(19,.bool (decide (((i:Nat):Int)<((es.length:Nat):Int)))),(63,.slice ae ((es.take i).length) ce),(64,.int .i64 (((es.take i).length:Nat):Int)),(65,.int .i64 ((j:Nat):Int))]∧As w w'∧(AI w' a2 [.slice ae es.length ce,.slice am ms.length cm,.slice ac cl.length cc] 29)∧(AI w' a6 [.string ((x).item),.int .i64 (((x).dot).node),.int .i64 (((x).dot).life),.int .i64 (((x).dot).count),.int .i64 ((x).qty),.int .u64 ((x).price)] 89)∧(j≤(es.take i).length)∧(Ep (fun y=>decide (y.dot=x.dot)) (es.take i) j)) (fun j=>(es.take i).length-j) 0 ?_ ?_
          ·refine⟨⟨rfl,rfl,rfl,rfl,rfl,rfl,rfl,rfl,rfl,trivial⟩,K0,a0,a1,?_,?_⟩
           ·omega
           ·exact Ep.zero _ _
          clear a0 a1;clear K0;rintro j aZ b0 ⟨ax,K0,a0,a1,hj,hno⟩ ih2;obtain⟨ρ₀,rfl⟩:=ax.ex;clear ax;refine jG ?_;refine jF ?_ ?_
          ·intro hc66
           obtain⟨b1,b2,z,hz,b3,aE⟩:=((hse.ext K0).take i).eo j;refine jG ?_;refine jR<|jA ?_;intro b4 b5 a3 ay ah;have b6:=Aj a0.lt a3;have b7:=Aj a1.lt a3;have b8:=Aj aE.lt a3;have:=Nat.le_trans K0.size a3;clear a3;refine jR<|jS ay ?_;intro b9 ay ai;replace a1:=(a1.ext ah).kp ai;refine jG ?_;refine jV (Ev Zk rfl rfl (CF ((z).dot) ((x).dot))) ?_;refine jG ?_;replace a0:=(a0.ext ah).kp ai;replace K0:=(K0.ext ah).n1 ai;refine jF ?_ ?_
           ·intro hc73
            refine jG ?_;refine jJ func10 ?_;exact⟨_,rfl,by rw[Fd hcan Zo h0 hx (CQ hc23 Zo hc33 (.inr (.inr ⟨z,AT hz,hc73⟩))) Zd],K0⟩
           ·intro hc73
            refine jG ?_;refine jV (Ay (c:=((j+1:Nat):Int)) (Aq rfl rfl Zo Zo) rfl) ?_;refine jG ?_;refine ih2 (j+1) _ _ ?_ Zo;refine⟨⟨rfl,rfl,rfl,rfl,rfl,rfl,rfl,rfl,rfl,trivial⟩,K0,a0,a1,?_,?_⟩
            ·omega
            ·exact hno.step hz (decide_eq_false hc73)
          ·intro hc66
           refine jG ?_;refine jV (Ay (c:=((i+1:Nat):Int)) (Aq rfl rfl Zo Zo) rfl) ?_;refine jG ?_;refine ih1 (i+1) _ _ ?_ Zo;refine⟨⟨rfl,rfl,rfl,rfl,trivial⟩,K0,a0,?_,?_⟩
           ·omega
           ·exact Fy h0 hx (GD hc23 Zo hc33 hA (MX Zo (by rw[←DL Zo];exact hy) hc38) (HF hno Zo))
        ·refine Al.drawS [] [0,1001,2,1003,2004,5,6,7,8,9,10,11,12,13,14,15,16,2017,18,19,20,21] ?_
         intro ba aj;replace a0:=a0.ext aj;replace a1:=a1.ext aj;refine jM (jb a0 (jb a1 Jn)) ?_;refine jG ?_;replace K0:=K0.ext aj;refine jU rfl<|jC (Fx am ms cm ac cl cc ((x).dot) _ (hs.ext K0) (ht.ext K0) Zo Zo) ?_;rintro _ bb ⟨rfl,ak⟩;replace a0:=a0.ext ak;replace a1:=a1.ext ak;refine BP ?_;refine jP ?_ (hx:=by exact fun _=>(AR (AS rfl) (by rw[decide_eq_true (hcx.covR.2 hA)];rfl)));refine CU ?_;refine jQ ?_ (hx:=by exact fun _ hg=>(AR (DH rfl rfl) Zi));refine jG ?_;refine jY ?_;refine jG ?_;refine jQ ?_ (hx:=by exact fun _ hg=>(AN (b:=false) (e:=false) rfl rfl rfl));refine jP ?_ (hx:=by exact fun _=>(Bi rfl rfl rfl));refine jG ?_;refine Al.condF rfl ?_;refine jG ?_;refine jV (EN (m':=(es.take i).length) (BL underlying23 ty89 rfl rfl Zo) Zt) ?_;refine jG ?_;replace K0:=K0.ext ak;refine Al.loop (ι:=Nat) (fun j ρ' w'=>AG ρ' [(1,jp a2),(4,jp a6),(16,.slice ae es.length ce),(17,.int .i64 ((es.length:Nat):Int)),(18,.int .i64 ((i:Nat):Int)),(19,.bool (decide (((i:Nat):Int)<((es.length:Nat):Int)))),(63,.slice ae ((es.take i).length) ce),(64,.int .i64 (((es.take i).length:Nat):Int)),(65,.int .i64 ((j:Nat):Int))]∧As w w'∧(AI w' a2 [.slice ae es.length ce,.slice am ms.length cm,.slice ac cl.length cc] 29)∧(AI w' a6 [.string ((x).item),.int .i64 (((x).dot).node),.int .i64 (((x).dot).life),.int .i64 (((x).dot).count),.int .i64 ((x).qty),.int .u64 ((x).price)] 89)∧(j≤(es.take i).length)∧(Ep (fun y=>decide (y.dot=x.dot)) (es.take i) j)) (fun j=>(es.take i).length-j) 0 ?_ ?_
         ·refine⟨⟨rfl,rfl,rfl,rfl,rfl,rfl,rfl,rfl,rfl,trivial⟩,K0,a0,a1,?_,?_⟩
          ·omega
          ·exact Ep.zero _ _
         clear a0 a1;clear K0;rintro j bc be ⟨az,K0,a0,a1,hj,hno⟩ ih3;obtain⟨ρ₀,rfl⟩:=az.ex;clear az;refine jG ?_;refine jF ?_ ?_
         ·intro hc66
          obtain⟨bg,bh,z,hz,bi,aF⟩:=((hse.ext K0).take i).eo j;refine jG ?_;refine jR<|jA ?_;intro bj bk a4 aA al;have bl:=Aj a0.lt a4;have bm:=Aj a1.lt a4;have bn:=Aj aF.lt a4;have:=Nat.le_trans K0.size a4;clear a4;refine jR<|jS aA ?_;intro bo aA an;replace a1:=(a1.ext al).kp an;refine jG ?_;refine jV (Ev Zk rfl rfl (CF ((z).dot) ((x).dot))) ?_;refine jG ?_;replace a0:=(a0.ext al).kp an;replace K0:=(K0.ext al).n1 an;refine jF ?_ ?_
          ·intro hc73
           refine jG ?_;refine jJ func10 ?_;exact⟨_,rfl,by rw[Fd hcan Zo h0 hx (CQ hc23 Zo hc33 (.inr (.inr ⟨z,AT hz,hc73⟩))) Zd],K0⟩
          ·intro hc73
           refine jG ?_;refine jV (Ay (c:=((j+1:Nat):Int)) (Aq rfl rfl Zo Zo) rfl) ?_;refine jG ?_;refine ih3 (j+1) _ _ ?_ Zo;refine⟨⟨rfl,rfl,rfl,rfl,rfl,rfl,rfl,rfl,rfl,trivial⟩,K0,a0,a1,?_,?_⟩
           ·omega
           ·exact hno.step hz (decide_eq_false hc73)
         ·intro hc66
          refine jG ?_;refine jV (Ay (c:=((i+1:Nat):Int)) (Aq rfl rfl Zo Zo) rfl) ?_;refine jG ?_;refine ih1 (i+1) _ _ ?_ Zo;refine⟨⟨rfl,rfl,rfl,rfl,trivial⟩,K0,a0,?_,?_⟩
          ·omega
          ·exact Fy h0 hx (GD hc23 Zo hc33 hA (Pg Zo hB) (HF hno Zo))
       ·refine Al.drawS [] [0,1001,2,1003,2004,5,6,7,8,9,10,11,12,13,14,15,16,2017,18,19,20,21] ?_
        intro bp ao;replace a0:=a0.ext ao;replace a1:=a1.ext ao;refine jM (jb a0 (jb a1 Jn)) ?_;refine jG ?_;replace K0:=K0.ext ao;refine jU rfl<|jC (Fx am ms cm ac cl cc ((x).dot) _ (hs.ext K0) (ht.ext K0) Zo Zo) ?_;rintro _ bq ⟨rfl,ap⟩;replace a0:=a0.ext ap;replace a1:=a1.ext ap;refine BP ?_;refine jP ?_ (hx:=by exact fun _=>(A3 (AS rfl) (by rw[decide_eq_false (fun h_=>hA (hcx.covR.1 h_))];rfl)));refine jG ?_;refine jY ?_;refine jG ?_;refine jP ?_ (hx:=by exact fun _=>(Ba (b:=true) (e:=false) rfl rfl rfl));refine jG ?_;refine CE ?_;refine jG ?_;refine jJ func10 ?_;replace K0:=K0.ext ap;exact⟨_,rfl,by rw[Fd hcan Zo h0 hx (CQ hc23 Zo hc33 (.inl hA)) Zd],K0⟩
   ·intro hc19
    refine jG ?_;refine jR<|jC (JX _ es _ _ (hse.ext K0) Zo) ?_;rintro _ bs ⟨rfl,aG⟩;refine jG ?_;replace K0:=K0.ext aG;refine jF ?_ ?_
    ·intro hc79
     refine jG ?_;refine jJ func10 ?_;exact⟨_,rfl,by rw[G7 hcan Zo (by rw[←(show i=es.length by omega)];exact h0) Zo],K0⟩
    ·intro hc79
     refine jG ?_;refine jJ func10 ?_;exact⟨_,rfl,by rw[MW hcan Zo (by rw[←(show i=es.length by omega)];exact h0) Zo],K0⟩
end Go.Proofs.YtocgdeefgohdhaaGreat
