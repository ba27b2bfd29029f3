/-
  Cl, Cm, Cn
-/
import Derived.Test.YtocgdeefgohdhaaGreatRows
import Derived.Test.YtocgdeefgohdhaaGreatPkCk
import Derived.Test.YtocgdeefgohdhaaGreatPkRune
import Derived.Laws.RangeString
import Derived.Shelf.Small.Strs
import Derived.Test.YtocgdeefgohdhaaGreatPkI
set_option linter.all false
set_option maxRecDepth 100000
set_option maxHeartbeats 4000000
namespace Go.Proofs.YtocgdeefgohdhaaGreat
attribute [local irreducible] RD RS St1 RL RA RT RT1 Run
section
open Ieee Ieee.Format
def priceN (b:Int):Prop:=b≤9218868437227405312∨b=9223372036854775808
instance (b :Int):Decidable (priceN b):=by unfold priceN;infer_instance
theorem cmp0 (x:Int):(some (compare x 0)=some Ordering.gt∨some (compare x 0)=some Ordering.eq)↔0≤x:=by
 have e:compare x 0=if x<0 then .lt else if x=0 then .eq else .gt:=by simp only[compare,compareOfLessAndEq]
 rw[e]
 by_cases h1:x<0
 ·simp[h1]
 ·by_cases h2:x=0
  ·simp[h2]
  ·simp[h1,h2];omega
theorem sg0 (k:Nat):signed false 0 k=0:=by simp[signed]
theorem sgF (m k:Nat):0≤signed false m k:=by simp only[signed,Bool.false_eq_true,if_false];exact Int.natCast_nonneg _
theorem sgT (m k:Nat):0≤signed true m k↔m=0:=by
 simp only[signed,if_true]
 have h:m<<<k=m*2^k:=Nat.shiftLeft_eq m k
 constructor
 ·intro h1
  have h2:m*2^k=0:=by omega
  rcases Nat.mul_eq_zero.1 h2 with h3|h3
  ·exact h3
  ·exact absurd h3 (Nat.ne_of_gt (Nat.two_pow_pos k))
 ·rintro rfl;simp
theorem read_zero :Ieee.double.read 0= .number false 0 Ieee.double.leastPlace:=by decide+kernel
theorem order_price {b:Nat}(hb:b<18446744073709551616):(Ieee.double.order b 0=some .gt∨Ieee.double.order b 0=some .eq)↔priceN b:=by
 have e1:Ieee.double.signWeight=9223372036854775808:=by decide+kernel
 have e2:Ieee.double.binade=4503599627370496:=by decide+kernel
 have e3:Ieee.double.infRung=9218868437227405312:=by decide+kernel
 unfold Format.order priceN
 rw[read_zero]
 unfold Format.read
 simp only[e1,e2,e3]
 by_cases hs:b<9223372036854775808
 ·have hn:(b/9223372036854775808%2==1)=false:=by simp;omega
  have hr:b%9223372036854775808=b:=Nat.mod_eq_of_lt hs
  rw[hn,hr]
  split
  ·simp only[Datum.order,sg0,cmp0,sgF,true_iff];omega
  ·split
   ·simp only[Datum.order,sg0,cmp0,sgF,true_iff];omega
   ·split
    ·simp[Datum.order];omega
    ·simp[Datum.order];omega
 ·have hn:(b/9223372036854775808%2==1)=true:=by simp;omega
  have hr:b%9223372036854775808=b-9223372036854775808:=by omega
  rw[hn,hr]
  split
  ·simp only[Datum.order,sg0,cmp0,sgT];omega
  ·split
   ·simp only[Datum.order,sg0,cmp0,sgT];omega
   ·split
    ·simp[Datum.order];omega
    ·simp[Datum.order];omega
theorem x_geF {P:Program}{n:FN}{ρ:Regs}{w:World}{dst:Option Nat}{ty:TypeId}{pos:String}{af:Array Edge}{g:Option (Nat×Bool)}{t t':TypeId}{x y:Operand}{b:Int}(h0:0≤b)(h1:b<18446744073709551616)(hx:rd n ρ x= .float .f64 b.toNat)(hy:rd n ρ y= .float .f64 0):
  X P n ρ ⟨dst,.binOp .geq t x y t',ty,pos,af,g⟩ w (.bool (decide (priceN b))) w:=by
 have h:=order_price (b:=b.toNat) (by omega)
 rw[Int.toNat_of_nonneg h0]at h
 have e:(Ieee.double.order b.toNat 0==some .gt||Ieee.double.order b.toNat 0==some .eq)=decide (priceN b):=by
  rw[Bool.eq_iff_iff,Bool.or_eq_true,beq_iff_eq,beq_iff_eq,decide_eq_true_eq];exact h
 rw[←e]
 simp[X,execOp,hx,hy,eqGuard,binOp,Op.floatCmp,FloatKind.format]
end
def badB (c:UInt8):Bool:=decide (¬(97≤(c.toNat:Int)∧(c.toNat:Int)≤122)∧¬(65≤(c.toNat:Int)∧(c.toNat:Int)≤90)∧¬(48≤(c.toNat:Int)∧(c.toNat:Int)≤57)∧(c.toNat:Int)≠46∧(c.toNat:Int)≠45∧(c.toNat:Int)≠95)
def nameK (s:ByteArray):Bool:=decide (s≠⟨#[]⟩∧s.size≤32)&& !(s.data.toList.any badB)
theorem nameK_no {s:ByteArray}(h:¬(s≠⟨#[]⟩∧s.size≤32)):nameK s=false:=by rw[nameK,decide_eq_false h];rfl
theorem nameK_bad {s:ByteArray}{i:Nat}{c:UInt8}(hx:s.data.toList[i]? =some c)(h:badB c=true):nameK s=false:=by rw[nameK,any_at hx h];simp
theorem nameK_yes {s:ByteArray}{i:Nat}(h:s≠⟨#[]⟩∧s.size≤32)(hno:NoB badB s.data.toList i)(hi:s.data.toList.length≤i):nameK s=true:=by rw[nameK,any_no hno hi,decide_eq_true h];rfl
def badR (r:Nat):Bool:=decide (¬(97≤r∧r≤122)∧¬(65≤r∧r≤90)∧¬(48≤r∧r≤57)∧r≠46∧r≠45∧r≠95)
theorem set_ascii :∀n:Fin 128,(0≤Lib.indexByte [45,95,46] (IntKind.u8.wrap ((n.1:Nat):Int)).toNat.toUInt8↔(n.1=45∨n.1=95∨n.1=46)):=by decide+kernel
theorem set_at {r:Int}(h0:0≤r)(h:r<128):0≤Lib.indexByte ((⟨#[45,95,46]⟩:ByteArray).data.toList) (IntKind.u8.wrap r).toNat.toUInt8↔r=45∨r=95∨r=46:=by
 have:=set_ascii ⟨r.toNat,by omega⟩
 simp only[Int.toNat_of_nonneg h0]at this
 rw[show((⟨#[45,95,46]⟩:ByteArray)).data.toList=[45,95,46]from rfl,this]
 omega
theorem set_far :∀c:UInt8,128≤c.toNat→(Lib.indexByte [46] c= -1∧Lib.indexByte [] c= -1):=by
 have:∀n:Fin 256,128≤(UInt8.ofNat n.1).toNat→(Lib.indexByte [46] (UInt8.ofNat n.1)= -1∧Lib.indexByte [] (UInt8.ofNat n.1)= -1):=by decide+kernel
 intro c hc
 have h:=this ⟨c.toNat,c.toNat_lt⟩
 simp only[UInt8.ofNat_toNat]at h
 exact h hc
theorem set_none {m:Nat}{c:UInt8}(h1:1≤m)(h3:m<3)(hc:128≤c.toNat):Lib.indexByte (((⟨#[45,95,46]⟩:ByteArray)).extract (m+1) ((⟨#[45,95,46]⟩:ByteArray)).size).data.toList ((c.toNat:Int)).toNat.toUInt8= -1:=by
 have e:((c.toNat:Int)).toNat.toUInt8=c:=by simp[Nat.toUInt8]
 rw[e]
 have h:=set_far c hc
 rcases (show m=1∨m=2 by omega)with rfl|rfl
 ·exact h.1
 ·exact h.2
theorem set_byte {m:Nat}(h1:1≤m)(h3:m<3):∃d:UInt8,((⟨#[45,95,46]⟩:ByteArray)).data.toList[m]? =some d∧d.toNat<128:=by
 rcases (show m=1∨m=2 by omega)with rfl|rfl
 ·exact⟨95,rfl,by decide⟩
 ·exact⟨46,rfl,by decide⟩
theorem valid_eq (r:Int):Utf8.valid r=(decide (0≤r)&&decide (r<55296)||decide (57344≤r)&&decide (r≤1114111)):=rfl
theorem retSame {P:Program}{f:FuncId}{a:Array Value}{w:World}{v:Value}(h:Calls P f a w fun e w'=>e= .returned v∧w'=w):Calls P f a w (Ret fun x w'=>x=v∧w=w'):=h.mono fun e w' ⟨h1,h2⟩=>⟨_,h1,rfl,h2.symm⟩
theorem below_ext {w w':World}(h:RowKit.Below w.heap.size w w'):Ext w w':=⟨h.os,h.tape,h.output,h.size,fun k hk _=>h.block k hk⟩
theorem idx_runes (s : ByteArray) : Lib.idxFunc badR true s < 0 ↔ s.data.toList.any badB = false := by
  have key : ∀ (f p : Nat), p + f = s.size → (Lib.idxFuncFrom badR true s f p < 0 ↔ (s.data.toList.drop p).any badB = false) := by
    intro f
    induction f with
    | zero =>
      intro p hp
      rw [List.drop_eq_nil_of_le (by rw [dataLen]; omega)]
      simp [Lib.idxFuncFrom]
    | succ f ih =>
      intro p hp
      have hps : p < s.size := by omega
      have hpl : p < s.data.toList.length := by rw [dataLen]; exact hps
      obtain ⟨c, hc⟩ := strAt s hps
      have hcg : s[p]'hps = c := by
        obtain ⟨h1, h2⟩ := List.getElem?_eq_some_iff.1 hc
        rw [← h2]; rfl
      have hd : s.data.toList.drop p = c :: s.data.toList.drop (p + 1) := by
        obtain ⟨h1, rfl⟩ := List.getElem?_eq_some_iff.1 hc
        exact List.drop_eq_getElem_cons h1
      unfold Lib.idxFuncFrom
      rw [if_pos hps, hd, List.any_cons]
      by_cases ha : c.toNat < 128
      · have hdec := decode_ascii s p hps (by rw [hcg]; exact ha)
        rw [hdec, hcg]
        have hb : badR c.toNat = badB c := by
          unfold badR badB
          rw [decide_eq_decide]
          omega
        rw [hb]
        cases hbb : badB c with
        | true => simp
        | false => simpa using ih (p + 1) (by omega)
      · have hbad : badB c = true := by unfold badB; rw [decide_eq_true_eq]; omega
        have hrune : badR (Utf8.decode s p).1 = true := by
          have hge : 128 ≤ (Utf8.decode s p).1 := by
            have e : s.get! (p + 0) = c := by
              show s.get! p = _
              rw [← hcg]
              simp [ByteArray.get!, getElem!_pos, hps]
              rfl
            unfold Utf8.decode
            simp only [e, ha, if_false]
            split
            · split
              · rename_i h; exact Nat.le_trans (by decide) h
              · decide
            · split
              · split
                · rename_i h; simp only [Bool.and_eq_true, decide_eq_true_eq] at h; exact Nat.le_trans (by decide) h.1
                · decide
              · split
                · split
                  · rename_i h; simp only [Bool.and_eq_true, decide_eq_true_eq] at h; exact Nat.le_trans (by decide) h.1
                  · decide
                · decide
          unfold badR; rw [decide_eq_true_eq]; omega
        rw [hrune, hbad]
        simp
  have h := key s.size 0 (by omega)
  simpa [Lib.idxFunc] using h
theorem item_eq (s:ByteArray):(!decide (s=⟨#[]⟩)&&decide ((s.size:Int)≤32)&&decide (Lib.idxFunc badR true s<0))=nameK s:=by
 rw[nameK,Bool.eq_iff_iff]
 simp only[Bool.and_eq_true,Bool.not_eq_true',decide_eq_false_iff_not,decide_eq_true_eq,idx_runes,ne_eq]
 constructor
 ·rintro⟨⟨h1,h2⟩,h3⟩;exact⟨⟨h1,by omega⟩,h3⟩
 ·rintro⟨⟨h1,h2⟩,h3⟩;exact⟨⟨h1,by omega⟩,h3⟩
attribute [local irreducible] X
theorem isName_ (s:ByteArray)(w:World)(hl:s.size≤4294967295):
  Calls Tryz.prog 37 #[.string (s)] w (Ret (fun v w'=>v= .bool (nameK s)∧Ext w w')):=by
 have hdl:=dataLen s;refine calls_run (n:=56) Tryz.func37 rfl rfl rfl ?_;refine jG ?_;refine jV (x_eqS rfl rfl) ?_;refine jG ?_;refine jW ?_ (hx:=by exact fun hg=>(x_lenStr Tryz.underlying9 (gvr hg)));refine jG ?_;refine jV (x_or rfl rfl rfl) ?_;refine jG ?_;refine jF ?_ ?_
 ·intro hc11
  refine jG ?_;refine jJ Tryz.func37 ?_;exact⟨_,rfl,by rw[nameK_no (fun h_=>hc11.elim (fun e_=>h_.1 e_) (fun e_=>by omega))],(Keeps.refl _ w)⟩
 ·intro hc11
  refine jG ?_;refine Run.loop (ι:=Nat) (fun i ρ' w'=>Holds ρ' [(0,.string (s)),(3,.int .i64 (((i:Nat):Int)))]∧Ext w w'∧(i≤s.size)∧(NoB badB s.data.toList i)) (fun i=>s.size-i) 0 ?_ ?_
  ·refine⟨⟨rfl,rfl,trivial⟩,(Keeps.refl _ w),?_,?_⟩
   ·omega
   ·exact NoB.zero _ _
  rintro i a1 a2 ⟨a0,K0,hi,hno⟩ ih1;obtain⟨ρ₀,rfl⟩:=a0.ex;clear a0;refine jG ?_;refine jV (x_lenStr Tryz.underlying9 rfl) ?_;refine jG ?_;refine jF ?_ ?_
  ·intro hc15
   obtain⟨c,hx⟩:=strAt s (i:=i) (by omega);refine jG ?_;refine jV (x_idxStrN Tryz.underlying9 rfl rfl hx) ?_;refine jG ?_;refine jV (x_and rfl rfl rfl) ?_;refine jG ?_;refine jW ?_ (hx:=by exact fun hg=>(x_andG hg rfl rfl rfl));refine jV (x_or rfl rfl rfl) ?_;refine jG ?_;refine jW ?_ (hx:=by exact fun hg=>(x_andG hg rfl rfl rfl));refine jV (x_or rfl rfl rfl) ?_;refine jG ?_;refine jV (x_or rfl rfl rfl) ?_;refine jG ?_;refine jV (x_or rfl rfl rfl) ?_;refine jG ?_;refine jV (x_or rfl rfl rfl) ?_;refine jG ?_;refine jF ?_ ?_
   ·intro hc55
    refine jG ?_;refine jJ Tryz.func37 ?_;exact⟨_,rfl,by rw[nameK_bad hx (by simp only[badB,decide_eq_true_eq];omega)],K0⟩
   ·intro hc55
    refine jG ?_;refine jV (litI (c:=((i+1:Nat):Int)) (x_add rfl rfl (by omega) (by omega)) rfl) ?_;refine jG ?_;refine ih1 (i+1) _ _ ?_ (by omega);refine⟨⟨rfl,rfl,trivial⟩,K0,?_,?_⟩
    ·omega
    ·exact hno.step hx (by simp only[badB,decide_eq_false_iff_not];omega)
  ·intro hc15
   refine jG ?_;refine jJ Tryz.func37 ?_;exact⟨_,rfl,by rw[nameK_yes ⟨hc11.1,by omega⟩ hno (by omega)],K0⟩
theorem isPrice_ (b:Int)(w:World):
  Calls Tryz.prog 39 #[.int .u64 (b)] w (Ret (fun v w'=>v= .bool (decide (priceN b))∧Ext w w')):=by
 refine calls_run (n:=9) Tryz.func39 rfl rfl rfl ?_;refine jG ?_;refine jV (x_or rfl rfl rfl) ?_;refine jG ?_;refine jJ Tryz.func39 ?_;exact⟨_,rfl,congrArg Value.bool (by rw[Bool.eq_iff_iff,decide_eq_true_iff];unfold priceN;simp),(Keeps.refl _ w)⟩
theorem qty_ (n k:Int)(w:World):
  Calls Tryz.prog 38 #[.int .i64 (n),.int .i64 (k)] w (Ret (fun v w'=>v= .bool (decide (k≤n)&&decide (n≤1000000))∧Ext w w')):=by
 refine calls_run (n:=12) Tryz.func38 rfl rfl rfl ?_;refine jG ?_;refine jV (x_and rfl rfl rfl) ?_;refine jG ?_;refine jJ Tryz.func38 ?_;exact⟨_,rfl,rfl,(Keeps.refl _ w)⟩
theorem price_ (b:Int)(w:World)(h0:0≤b)(h1:b<18446744073709551616):
  Calls Tryz.prog 102 #[.int .u64 (b)] w (Ret (fun v w'=>v= .bool (decide (priceN b))∧Ext w w')):=by
 refine calls_run (n:=6) Tryz.func102 rfl rfl rfl ?_;refine jG ?_;refine jR<|St1.extn (vals:=[.int .u64 b]) (v:= .float .f64 b.toNat) rfl (by rw[run_callFunc_extern Tryz.func115 (by kernel_rfl) (by kernel_rfl) (by kernel_rfl) (e:=Extern.MathFloatBits.float64frombits) (by kernel_rfl)];rfl) ?_;refine jV (x_geF h0 h1 rfl rfl) ?_;refine jG ?_;refine jJ Tryz.func102 ?_;exact⟨_,rfl,rfl,(Keeps.refl _ w)⟩
theorem validRune_ (r:Int)(w:World):
  Calls Tryz.prog 128 #[.int .i32 (r)] w (Ret (fun v w'=>v= .bool (Utf8.valid r)∧Ext w w')):=by
 refine calls_run (n:=17) Tryz.func128 rfl rfl rfl ?_;refine jG ?_;refine jV (x_and rfl rfl rfl) ?_;refine jG ?_;refine jF ?_ ?_
 ·intro hc3
  refine jG ?_;refine jJ Tryz.func128 ?_;exact⟨_,rfl,congrArg Value.bool (by rw[valid_eq];simp;omega),(Keeps.refl _ w)⟩
 ·intro hc3
  refine jG ?_;refine jV (x_and rfl rfl rfl) ?_;refine jG ?_;refine jF ?_ ?_
  ·intro hc10
   refine jG ?_;refine jJ Tryz.func128 ?_;exact⟨_,rfl,congrArg Value.bool (by rw[valid_eq];simp;omega),(Keeps.refl _ w)⟩
  ·intro hc10
   refine jG ?_;refine jJ Tryz.func128 ?_;exact⟨_,rfl,congrArg Value.bool (by rw[valid_eq];simp;omega),(Keeps.refl _ w)⟩
theorem idxRune_ (r:Int)(w:World)(h0:0≤r)(h1:r≤1114111):
  Calls Tryz.prog 120 #[.string ((⟨#[45,95,46]⟩:ByteArray)),.int .i32 (r)] w (Ret (fun v w'=>∃q:Int,v= .int .i64 q∧(0≤q↔r=45∨r=95∨r=46)∧Ext w w')):=by
 refine calls_run (n:=187) Tryz.func120 rfl rfl rfl ?_;refine jG1 ?_;by_cases hA:r<128
 ·refine jG1 ?_
  refine jV (litT (x_leI rfl rfl) (decide_eq_true h0)) ?_;refine jG2 ?_;refine jT<|jO (litT (x_ltI rfl rfl) (decide_eq_true hA)) ?_;refine jV (x_andT rfl rfl rfl) ?_;refine jG ?_;refine jT1 ?_;refine jG ?_;refine jV (x_convI rfl ⟨_,Tryz.underlying21⟩ Tryz.underlying5) ?_;refine jR<|jC (retSame (Any.strings_IndexByte idxBL (⟨#[45,95,46]⟩:ByteArray) (IntKind.u8.wrap r) _)) ?_;rintro _ _ ⟨rfl,rfl⟩;refine jG ?_;refine jJ Tryz.func120 ?_;exact⟨_,rfl,_,rfl,set_at h0 hA,(Keeps.refl _ w)⟩
 ·refine jG1 ?_
  refine jV (litT (x_leI rfl rfl) (decide_eq_true h0)) ?_;refine jG2 ?_;refine jT<|jO (litF (x_ltI rfl rfl) (decide_eq_false hA)) ?_;refine jV (x_andT rfl rfl rfl) ?_;refine jG ?_;refine Run.condF rfl ?_;refine Jct ?_;by_cases hB:r=65533
  ·refine jG1 ?_
   refine jV (litT (x_eqI rfl rfl) (by simp[hB])) ?_;refine jG ?_;refine jT1 ?_;refine jG ?_;refine jR<|St1.rangeStr Tryz.underlying9 rfl ?_;intro a0 ad a1 a2 a3;have:w.heap.size≤a0:=a1;have K0:=(a3:Ext w _);refine jG ?_;refine Run.unloop ?_;refine jG ?_;refine jR<|St1.nextStr (p:=0) (r:=45) (wd:=1) rfl a2 (by decide) (by decide+kernel) ?_;intro ae a4 a5;refine jG ?_;refine jT1 ?_;refine jG ?_;refine Run.condF rfl ?_;refine jG ?_;refine Run.inLoop ?_;refine jG ?_;refine jR<|St1.nextStr (p:=1) (r:=95) (wd:=1) rfl a4 (by decide) (by decide+kernel) ?_;intro af a6 a7;refine jG ?_;refine jT1 ?_;refine jG ?_;refine Run.condF rfl ?_;refine jG ?_;refine Run.inLoop ?_;refine jG ?_;refine jR<|St1.nextStr (p:=2) (r:=46) (wd:=1) rfl a6 (by decide) (by decide+kernel) ?_;intro ag a8 a9;refine jG ?_;refine jT1 ?_;refine jG ?_;refine Run.condF rfl ?_;refine jG ?_;refine Run.inLoop ?_;refine jG ?_;refine jR<|St1.nextEnd rfl a8 (by decide) ?_;refine jG ?_;refine Run.condF rfl ?_;refine jG ?_;refine jJ Tryz.func120 ?_;replace K0:=((K0.n1 a5).n1 a7).n1 a9;exact⟨_,rfl,_,rfl,by omega,K0⟩
  ·refine jG1 ?_
   refine jV (litF (x_eqI rfl rfl) (by simp[hB])) ?_;refine jG ?_;refine Run.condF rfl ?_;refine jG ?_;refine jR<|jC (validRune_ _ _) ?_;rintro _ ah ⟨rfl,aa⟩;have K0:=(aa:Ext w _);refine jG ?_;refine jF ?_ ?_
   ·intro hc183
    skip
    refine jG ?_;refine jJ Tryz.func120 ?_;exact⟨_,rfl,_,rfl,by omega,K0⟩
   ·intro hc183
    obtain⟨m,c,hm1,hm3,hsz,hcc,hc8⟩:=encode_far hc183 (by omega);refine jG ?_;refine jV (x_runeStr (by kernel_rfl) Tryz.underlying9 rfl) ?_;refine jG ?_;refine jV (litI (c:=((m+1:Nat):Int)) (x_lenStr Tryz.underlying9 rfl) (by rw[hsz])) ?_;refine jV (litI (c:=((m:Nat):Int)) (x_sub rfl rfl (by omega) (by omega)) (by omega)) ?_;refine jG ?_;refine Run.unloop ?_;refine jG ?_;refine jV (litI (c:=3) (x_lenStr Tryz.underlying9 rfl) (by decide)) ?_;refine jG ?_;refine jF ?_ ?_
    ·intro hc26
     refine jG ?_;obtain⟨d,hd,hd8⟩:=set_byte hm1 (by omega);refine Run.drawR ?_;intro ai ab;refine jG ?_;refine jD (x_idxStrN (i:=m) (c:=d) Tryz.underlying9 rfl rfl hd) ?_;refine jG ?_;refine jD (x_idxStrN (i:=m) (c:=c) Tryz.underlying9 rfl rfl hcc) ?_;refine jD (litT (x_neI rfl rfl) (by simp;omega)) ?_;refine jG ?_;refine jT1 ?_;refine jG ?_;refine Run.drawT [] (m:=9) (by kernel_rfl) rfl ?_;intro aj ac;refine⟨fun w'=>True,?_⟩;refine RT.takeP 0 rfl (by kernel_rfl) (.inr trivial) (fun _=>(x_moveS rfl)) ?_;refine RT.takeP 1 rfl (by kernel_rfl) (.inr trivial) (fun _=>(x_moveI rfl)) ?_;refine RT.takeP 2 rfl (by kernel_rfl) (.inr trivial) (fun _=>(litI (c:=((m+1:Nat):Int)) (x_add rfl rfl (by omega) (by omega)) rfl)) ?_;refine RT.takeP 3 rfl (by kernel_rfl) (.inr trivial) (fun _=>(x_slStrFrom (i:=m+1) Tryz.underlying9 rfl rfl (by simp only[show((⟨#[45,95,46]⟩:ByteArray)).size=3 from rfl];omega))) ?_;refine RT.takeP 4 rfl (by kernel_rfl) (.inr trivial) (fun _=>(x_moveS rfl)) ?_;refine RT.takeP 5 rfl (by kernel_rfl) (.inr trivial) (fun _=>(x_moveI rfl)) ?_;refine RT.takeP 6 rfl (by kernel_rfl) (.inr trivial) (fun _=>(x_idxStrN (i:=m) (c:=c) Tryz.underlying9 rfl rfl hcc)) ?_;refine RT.st 7 rfl (by kernel_rfl) rfl<|jC (retSame (Any.strings_IndexByte idxBL ((⟨#[45,95,46]⟩:ByteArray).extract (m+1) (⟨#[45,95,46]⟩:ByteArray).size) ((c).toNat:Int) _)) ?_;rintro _ _ ⟨rfl,rfl⟩;refine⟨.inr trivial,?_⟩;refine RT.takeP 8 rfl (by kernel_rfl) (.inr trivial) (fun _=>(x_assignI rfl)) ?_;refine RT.done (by kernel_rfl) ?_;refine jG1 ?_;refine jV (litT (x_ltI rfl rfl) (by rw[set_none hm1 (by omega) hc8];decide)) ?_;refine jG ?_;refine jT1 ?_;refine jG ?_;refine jJ Tryz.func120 ?_;replace K0:=(K0.ext ab).ext ac;exact⟨_,rfl,_,rfl,by omega,K0⟩
    ·intro hc26
     refine jG ?_;refine jJ Tryz.func120 ?_;exact⟨_,rfl,_,rfl,by omega,K0⟩
theorem contRune_ (r:Int)(w:World)(h0:0≤r)(h1:r≤1114111):
  Calls Tryz.prog 113 #[.string ((⟨#[45,95,46]⟩:ByteArray)),.int .i32 (r)] w (Ret (fun v w'=>v= .bool (decide (r=45∨r=95∨r=46))∧Ext w w')):=by
 refine calls_run (n:=9) Tryz.func113 rfl rfl rfl ?_;refine jG ?_;refine jR<|jC (idxRune_ r _ h0 h1) ?_;rintro _ a1 ⟨q,rfl,hq,a0⟩;have K0:=(a0:Ext w _);refine jG ?_;refine jJ Tryz.func113 ?_;exact⟨_,rfl,congrArg Value.bool (by rw[decide_eq_decide];exact hq),K0⟩
theorem itemR_ (x:Nat)(w:World)(hx:x≤1114111):
  Calls Tryz.prog 112 #[.int .i32 (((x:Nat):Int))] w (Ret (fun v w'=>v= .bool (badR x)∧Ext w w')):=by
 refine calls_run (n:=30) Tryz.func112 rfl rfl rfl ?_;refine jG ?_;refine jV (x_and rfl rfl rfl) ?_;refine jG ?_;refine jW ?_ (hx:=by exact fun hg=>(x_andG hg rfl rfl rfl));refine jV (x_or rfl rfl rfl) ?_;refine jG ?_;refine jW ?_ (hx:=by exact fun hg=>(x_andG hg rfl rfl rfl));refine jV (x_or rfl rfl rfl) ?_;refine jG ?_;refine RL.gcall (vals:=[.string ((⟨#[45,95,46]⟩:ByteArray)),.int .i32 (((x:Nat):Int))]) (wantedF rfl rfl rfl rfl) en113.h (fun hg=>(mcons rfl (mcons (gvr hg) mnil))) (fun hg=>(contRune_ ((x:Nat):Int) _ (by omega) (by omega))) ?_;intro a1 a0;have K0:=(a0:Ext w _);refine jV (x_or rfl rfl rfl) ?_;refine jG ?_;refine jJ Tryz.func112 ?_;exact⟨_,rfl,congrArg Value.bool (by unfold badR;rw[Bool.eq_iff_iff];simp;omega),K0⟩
theorem idxFunc_ (s:ByteArray)(w:World):Calls Tryz.prog 121 #[.string s,.func (.func 112) #[] #[],.bool true] w (Ret fun v w'=>v= .int .i64 (Lib.idxFunc badR true s)∧Ext w w'):=
 (Any.strings_indexFunc_grows idxFL 112 #[] (enters_of Tryz.func112 rfl (by kernel_rfl)) badR true s w (fun W x hx _=>(itemR_ x W hx).mono fun e w' ⟨v,h1,h2,h3⟩=>⟨by rw[h1,h2],h3.below⟩)).mono fun e w' ⟨h1,h2⟩=>⟨_,h1,rfl,below_ext h2⟩
theorem idxFuncS_ (s:ByteArray)(w:World):
  Calls Tryz.prog 114 #[.string (s),.func (.func 112) #[] #[]] w (Ret (fun v w'=>v= .int .i64 (Lib.idxFunc badR true s)∧Ext w w')):=by
 refine calls_run (n:=8) Tryz.func114 rfl rfl rfl ?_;refine jG ?_;refine jR<|jC (idxFunc_ s _) ?_;rintro _ a1 ⟨rfl,a0⟩;have K0:=(a0:Ext w _);refine jG ?_;refine jJ Tryz.func114 ?_;exact⟨_,rfl,rfl,K0⟩
theorem item_ (s:ByteArray)(w:World):
  Calls Tryz.prog 101 #[.string (s)] w (Ret (fun v w'=>v= .bool (nameK s)∧Ext w w')):=by
 refine calls_run (n:=17) Tryz.func101 rfl rfl rfl ?_;refine jG ?_;refine jV (x_neS rfl rfl) ?_;refine jG ?_;refine jW ?_ (hx:=by exact fun hg=>(x_lenStr Tryz.underlying9 (gvr hg)));refine jG ?_;refine jV (x_and rfl rfl rfl) ?_;refine jG ?_;refine RL.gcall (vals:=[.string (s),.func (.func 112) #[] #[]]) (wantedT rfl rfl rfl rfl) en114.h (fun hg=>(mcons (gvr hg) (mcons (gvr hg) mnil))) (fun hg=>(idxFuncS_ s _)) ?_;intro a1 a0;have K0:=(a0:Ext w _);refine jG ?_;refine jV (x_and rfl rfl rfl) ?_;refine jG ?_;refine jJ Tryz.func101 ?_;exact⟨_,rfl,congrArg Value.bool (item_eq s),K0⟩
end Go.Proofs.YtocgdeefgohdhaaGreat
namespace Go.Proofs.YtocgdeefgohdhaaGreat
attribute [local irreducible] RD RS St1 RL RA RT RT1 Run
theorem cmpB_lt : ∀ a b : List UInt8, Lib.compareBytes a b < 0 ↔ a < b
  | [], [] => by simp [Lib.compareBytes]
  | [], _ :: _ => by simp [Lib.compareBytes]
  | _ :: _, [] => by simp [Lib.compareBytes]
  | a :: r, b :: s => by
    rw [Lib.compareBytes, List.cons_lt_cons_iff, ← cmpB_lt r s]
    split
    · rename_i h; simp [h]
    · rename_i h
      split
      · rename_i h2
        simp only [h, false_or]
        constructor
        · intro h3; omega
        · rintro ⟨e, -⟩; subst e; exact absurd h2 h
      · rename_i h2
        have e : a = b := UInt8.toNat_inj.1 (by rw [UInt8.lt_iff_toNat_lt] at h h2; omega)
        simp [e]
theorem cmpB_eq : ∀ a b : List UInt8, Lib.compareBytes a b = 0 ↔ a = b
  | [], [] => by simp [Lib.compareBytes]
  | [], _ :: _ => by simp [Lib.compareBytes]
  | _ :: _, [] => by simp [Lib.compareBytes]
  | a :: r, b :: s => by
    rw [Lib.compareBytes]
    split
    · rename_i h
      constructor
      · intro h2; omega
      · intro e; cases e; exact absurd h (by rw [UInt8.lt_iff_toNat_lt]; omega)
    · rename_i h
      split
      · rename_i h2
        constructor
        · intro h2; omega
        · intro e; cases e; exact absurd h2 h
      · rename_i h2
        have e : a = b := UInt8.toNat_inj.1 (by rw [UInt8.lt_iff_toNat_lt] at h h2; omega)
        rw [cmpB_eq r s]; simp [e]
theorem strB_inj {a b:ByteArray}:a.data.toList=b.data.toList↔a=b:=by
 constructor
 ·intro h;cases a;cases b;simp only[ByteArray.mk.injEq];exact Array.toList_inj.1 h
 ·rintro rfl;rfl
theorem ltL_irr (a:List UInt8):¬a<a:=fun h=>by
 have h1:=(cmpB_lt a a).2 h
 have h2:=(cmpB_eq a a).2 rfl
 omega
theorem ltL_trans : ∀ {a b c : List UInt8}, a < b → b < c → a < c
  | _, _, [], _, h => absurd h (List.not_lt_nil _)
  | _, [], _ :: _, h, _ => absurd h (List.not_lt_nil _)
  | [], _ :: _, _ :: _, _, _ => List.nil_lt_cons _ _
  | a :: r, b :: s, c :: t, h1, h2 => by
    rw [List.cons_lt_cons_iff] at *
    simp only [UInt8.lt_iff_toNat_lt] at *
    rcases h1 with h1 | ⟨rfl, h1⟩ <;> rcases h2 with h2 | ⟨rfl, h2⟩
    · exact .inl (by omega)
    · exact .inl h1
    · exact .inl h2
    · exact .inr ⟨rfl, ltL_trans h1 h2⟩
theorem ltL_tri {a b : List UInt8} (h : ¬ a < b) (h2 : ¬ b < a) : a = b := by
  induction a generalizing b with
  | nil => cases b with
    | nil => rfl
    | cons => exact absurd (List.nil_lt_cons _ _) h
  | cons x a ih => cases b with
    | nil => exact absurd (List.nil_lt_cons _ _) h2
    | cons y b =>
      rw [List.cons_lt_cons_iff] at h h2
      simp only [UInt8.lt_iff_toNat_lt] at h h2
      have e : x = y := UInt8.toNat_inj.1 (by omega)
      subst e
      rw [ih (fun h3 => h (.inr ⟨rfl, h3⟩)) (fun h3 => h2 (.inr ⟨rfl, h3⟩))]
def ltE (a b:EntryC):Prop:=a.item.data.toList<b.item.data.toList∨a.item=b.item∧ltD a.dot b.dot
instance (a b:EntryC):Decidable (ltE a b):=by unfold ltE;infer_instance
def cmpE (a b:EntryC):Int:=Lib.compareBytes a.item.data.toList b.item.data.toList
def ordE (a b:EntryC):Int:=if cmpE a b=0 then ordD a.dot b.dot else cmpE a b
theorem ordE_lt {a b:EntryC}:ordE a b<0↔ltE a b:=by
 unfold ordE ltE
 rw[←cmpB_lt]
 have e:=(cmpB_eq a.item.data.toList b.item.data.toList).trans strB_inj
 unfold cmpE
 split
 ·rename_i h;rw[ordD_lt];simp[e.1 h,(cmpB_eq b.item.data.toList b.item.data.toList).2 rfl]
 ·rename_i h;simp only[show¬a.item=b.item from fun e2=>h (e.2 e2),false_and,or_false]
theorem ordE_ge {a b:EntryC}:0≤ordE a b↔¬ltE a b:=by rw[←ordE_lt];omega
def itemsN :List EntryC→Nat
 |[]=>0
 |[_]=>1
 |x::y::t=>(if x.item=y.item then 0 else 1)+itemsN (y::t)
theorem itemsN_le : ∀ l : List EntryC, itemsN l ≤ l.length
  | [] => Nat.le_refl _
  | [_] => Nat.le_refl _
  | x :: y :: t => by
    have := itemsN_le (y :: t)
    rw [itemsN]
    split <;> simp only [List.length_cons] at * <;> omega
theorem itemsN_snoc : ∀ (l : List EntryC) (y : EntryC), itemsN (l ++ [y]) = itemsN l + (if ∃ x, l.getLast? = some x ∧ x.item = y.item then 0 else 1)
  | [], y => by simp [itemsN]
  | [x], y => by simp [itemsN]; split <;> rfl
  | x :: z :: t, y => by
    have h := itemsN_snoc (z :: t) y
    rw [List.cons_append, List.cons_append, itemsN, ← List.cons_append, h, itemsN, List.getLast?_cons_cons]
    omega
theorem itemsN_run : ∀ (k : Nat) (x : EntryC) (t : List EntryC), (∀ j y, j < k → (x :: t)[j]? = some y → y.item = x.item) → 1 ≤ k → k ≤ t.length + 1 → (∀ y, (x :: t)[k]? = some y → y.item ≠ x.item) → itemsN (x :: t) = 1 + itemsN ((x :: t).drop k)
  | 0, _, _, _, h, _, _ => absurd h (by omega)
  | 1, x, [], _, _, _, _ => by simp [itemsN]
  | 1, x, y :: t, _, _, _, h => by
    have := h y rfl
    rw [itemsN, if_neg (fun e => this e.symm)]; rfl
  | k + 2, x, [], _, _, h, _ => absurd h (by simp)
  | k + 2, x, y :: t, h, _, hl, hn => by
    have e : y.item = x.item := h 1 y (by omega) rfl
    rw [itemsN, if_pos e.symm, Nat.zero_add, List.drop_succ_cons]
    exact itemsN_run (k + 1) y t (fun j z hj hz => by rw [e]; exact h (j + 1) z (by omega) (by simpa using hz)) (by omega) (by simp only [List.length_cons] at hl; omega) (fun z hz => by rw [e]; exact hn z (by simpa using hz))
noncomputable def errE (ms:List MarkC)(cl:List DotC)(pre:List EntryC)(x:EntryC):Int:=
 open Classical in
 if nameK x.item=false then 6 else if ¬(1≤x.qty∧x.qty≤1000000)then 52 else if ¬priceN x.price then 53
 else if ¬Cov ms cl x.dot∨(∃y,pre.getLast? =some y∧¬ltE y x)∨(∃y∈pre,y.dot=x.dot)then 50 else 0
noncomputable def firstE (ms:List MarkC)(cl:List DotC)(es:List EntryC):Nat→Int
 |0=>0
 |n+1=>if firstE ms cl es n≠0 then firstE ms cl es n else match es[n]? with|some x=>errE ms cl (es.take n) x|none=>0
noncomputable def canE (ms:List MarkC)(cl:List DotC)(es:List EntryC):Int:=
 if canX ms cl=false then 30 else if 64<es.length then 51 else if firstE ms cl es es.length≠0 then firstE ms cl es es.length else if 32<itemsN es then 51 else 0
section
variable {ms :List MarkC}{cl:List DotC}{es pre:List EntryC}{x y:EntryC}{i:Nat}
theorem errE_name (h:nameK x.item=false):errE ms cl pre x=6:=by rw[errE,if_pos h]
theorem errE_qty (h1:nameK x.item=true)(h:¬(1≤x.qty∧x.qty≤1000000)):errE ms cl pre x=52:=by rw[errE,if_neg (by simp[h1]),if_pos h]
theorem errE_price (h1:nameK x.item=true)(h2:1≤x.qty∧x.qty≤1000000)(h:¬priceN x.price):errE ms cl pre x=53:=by rw[errE,if_neg (by simp[h1]),if_neg (not_not_intro h2),if_pos h]
theorem errE_cart (h1:nameK x.item=true)(h2:1≤x.qty∧x.qty≤1000000)(h3:priceN x.price)(h:¬Cov ms cl x.dot∨(∃y,pre.getLast? =some y∧¬ltE y x)∨(∃y∈pre,y.dot=x.dot)):errE ms cl pre x=50:=by
 rw[errE,if_neg (by simp[h1]),if_neg (not_not_intro h2),if_neg (not_not_intro h3),if_pos h]
theorem errE_ok (h1:nameK x.item=true)(h2:1≤x.qty∧x.qty≤1000000)(h3:priceN x.price)(h:Cov ms cl x.dot)(h4:∀y,pre.getLast? =some y→ltE y x)(h5:∀y∈pre,y.dot≠x.dot):errE ms cl pre x=0:=by
 rw[errE,if_neg (by simp[h1]),if_neg (not_not_intro h2),if_neg (not_not_intro h3),if_neg]
 rintro(h6|⟨y,hy,h6⟩|⟨y,hy,h6⟩)
 ·exact h6 h
 ·exact h6 (h4 y hy)
 ·exact h5 y hy h6
structure OkE (ms:List MarkC)(cl:List DotC)(pre:List EntryC)(x:EntryC):Prop where
 name:nameK x.item=true
 qty:1≤x.qty∧x.qty≤1000000
 price:priceN x.price
 cov:Cov ms cl x.dot
 last:∀y,pre.getLast? =some y→ltE y x
 dots:∀y∈pre,y.dot≠x.dot
theorem errE_iff :errE ms cl pre x=0↔OkE ms cl pre x:=by
 constructor
 ·intro h
  have h1:nameK x.item=true:=Decidable.byContradiction fun h1=>by rw[errE_name (by simpa using h1)]at h;omega
  have h2:1≤x.qty∧x.qty≤1000000:=Decidable.byContradiction fun h2=>by rw[errE_qty h1 h2]at h;omega
  have h3:priceN x.price:=Decidable.byContradiction fun h3=>by rw[errE_price h1 h2 h3]at h;omega
  have h4:¬(¬Cov ms cl x.dot∨(∃y,pre.getLast? =some y∧¬ltE y x)∨(∃y∈pre,y.dot=x.dot)):=fun h4=>by rw[errE_cart h1 h2 h3 h4]at h;omega
  exact⟨h1,h2,h3,Decidable.byContradiction fun h5=>h4 (.inl h5),fun y hy=>Decidable.byContradiction fun h5=>h4 (.inr (.inl ⟨y,hy,h5⟩)),fun y hy e=>h4 (.inr (.inr ⟨y,hy,e⟩))⟩
 ·intro h;exact errE_ok h.name h.qty h.price h.cov h.last h.dots
theorem firstE_one (n:Nat):firstE ms cl es (n+1)=if firstE ms cl es n≠0 then firstE ms cl es n else match es[n]? with|some x=>errE ms cl (es.take n) x|none=>0:=rfl
theorem firstE_stay {n m : Nat} (h : firstE ms cl es n ≠ 0) (hm : n ≤ m) : firstE ms cl es m = firstE ms cl es n := by
  induction m with
  | zero => have : n = 0 := by omega
            subst this; rfl
  | succ m ih =>
    by_cases e : n = m + 1
    · subst e; rfl
    · have := ih (by omega)
      rw [firstE_one, this, if_pos h]
theorem firstE_at (h0:firstE ms cl es i=0)(hx:es[i]? =some x)(h:errE ms cl (es.take i) x≠0):firstE ms cl es es.length=errE ms cl (es.take i) x:=by
 have hi:=(List.getElem?_eq_some_iff.1 hx).1
 have e:firstE ms cl es (i+1)=errE ms cl (es.take i) x:=by rw[firstE_one,if_neg (not_not_intro h0),hx]
 rw[firstE_stay (n:=i+1) (by rw[e];exact h) hi,e]
theorem firstE_step (h0:firstE ms cl es i=0)(hx:es[i]? =some x)(h:errE ms cl (es.take i) x=0):firstE ms cl es (i+1)=0:=by rw[firstE_one,if_neg (not_not_intro h0),hx];exact h
theorem firstE_all : ∀ {n : Nat}, firstE ms cl es n = 0 → ∀ i x, i < n → es[i]? = some x → OkE ms cl (es.take i) x
  | 0, _, _, _, h, _ => absurd h (by omega)
  | n + 1, h, i, x, hi, hx => by
    rw [firstE_one] at h
    by_cases h0 : firstE ms cl es n = 0
    · rw [if_neg (not_not_intro h0)] at h
      by_cases e : i = n
      · subst e; rw [hx] at h; exact errE_iff.1 h
      · exact firstE_all h0 i x (by omega) hx
    · rw [if_pos h0] at h; exact absurd h h0
theorem canE_ctx (h:canX ms cl=false):canE ms cl es=30:=by rw[canE,if_pos h]
theorem canE_long (h:canX ms cl=true)(h2:64<es.length):canE ms cl es=51:=by rw[canE,if_neg (by simp[h]),if_pos h2]
theorem canE_at (h:canX ms cl=true)(h2:es.length≤64)(h0:firstE ms cl es i=0)(hx:es[i]? =some x)(h3:errE ms cl (es.take i) x≠0):canE ms cl es=errE ms cl (es.take i) x:=by
 rw[canE,if_neg (by simp[h]),if_neg (by omega),if_pos (by rw[firstE_at h0 hx h3];exact h3),firstE_at h0 hx h3]
theorem canE_many (h:canX ms cl=true)(h2:es.length≤64)(h0:firstE ms cl es es.length=0)(h3:32<itemsN es):canE ms cl es=51:=by rw[canE,if_neg (by simp[h]),if_neg (by omega),if_neg (not_not_intro h0),if_pos h3]
theorem canE_ok (h:canX ms cl=true)(h2:es.length≤64)(h0:firstE ms cl es es.length=0)(h3:itemsN es≤32):canE ms cl es=0:=by rw[canE,if_neg (by simp[h]),if_neg (by omega),if_neg (not_not_intro h0),if_neg (by omega)]
structure CanC (ms:List MarkC)(cl:List DotC)(es:List EntryC):Prop where
 ctx:CanX ms cl
 len:es.length≤64
 ent:∀i x,es[i]? =some x→OkE ms cl (es.take i) x
 items:itemsN es≤32
theorem last_take {es:List EntryC}(hi:0<i)(h:es[i-1]? =some y):(es.take i).getLast? =some y:=by
 have hl:=(List.getElem?_eq_some_iff.1 h).1
 rw[List.getLast?_eq_getElem?,List.length_take,Nat.min_eq_left (by omega),List.getElem?_take_of_lt (by omega)];exact h
theorem last_take_inv {es:List EntryC}(hl:i≤es.length)(h:(es.take i).getLast? =some y):0<i∧es[i-1]? =some y:=by
 rw[List.getLast?_eq_getElem?,List.length_take,Nat.min_eq_left (by omega)]at h
 by_cases h0:0<i
 ·rw[List.getElem?_take_of_lt (by omega)]at h;exact⟨h0,h⟩
 ·have:i=0:=by omega
  subst this;simp at h
theorem CanC.mem (h:CanC ms cl es)(hx:x∈es):nameK x.item=true∧(1≤x.qty∧x.qty≤1000000)∧priceN x.price∧Cov ms cl x.dot:=by
 obtain⟨i,hi,rfl⟩:=List.getElem_of_mem hx
 have h:=h.ent i _ (List.getElem?_eq_getElem hi)
 exact⟨h.name,h.qty,h.price,h.cov⟩
theorem CanC.dots (h:CanC ms cl es){x y:EntryC}(hx:x∈es)(hy:y∈es)(e:x.dot=y.dot):x=y:=by
 obtain⟨i,hi,rfl⟩:=List.getElem_of_mem hx
 obtain⟨j,hj,rfl⟩:=List.getElem_of_mem hy
 rcases Nat.lt_trichotomy i j with hlt|rfl|hlt
 ·exact absurd e ((h.ent j _ (List.getElem?_eq_getElem hj)).dots _ (List.mem_take_iff_getElem.2 ⟨i,by omega,rfl⟩))
 ·rfl
 ·exact absurd e.symm ((h.ent i _ (List.getElem?_eq_getElem hi)).dots _ (List.mem_take_iff_getElem.2 ⟨j,by omega,rfl⟩))
end
def Gr (w w':World):Prop:=∃(q:Nat) (os':Array Obj),w'=Go.Sort.grow (w.drewN q) os'
theorem Gr.refl (w:World):Gr w w:=⟨0,#[],by simp[Go.Sort.grow,World.drewN]⟩
theorem Gr.push (w:World)(o:Obj):Gr w {w with heap:=w.heap.push o}:=⟨0,#[o],by simp[Go.Sort.grow,World.drewN]⟩
theorem Gr.trans {a b c:World}(h:Gr a b)(k:Gr b c):Gr a c:=by
 obtain⟨q,os',rfl⟩:=h
 obtain⟨q2,os2,rfl⟩:=k
 exact⟨q+q2,os'++os2,by simp[Go.Sort.grow,World.drewN,Nat.add_assoc]⟩
section
variable {α :Type}[Enc α]{P:Program}{f:FuncId}{n:FN}{R:Ending→World→Prop}{k:List Item}{ρ:Regs}{w:World}{dst:Option Nat}{ty:TypeId}{pos:String}{af:Array Edge}{K:Regs→World→Prop}
theorem St1.boxG {e:TypeId}{x:Operand}{v:Value}(hx:rd n ρ x=v)
  (h:∀b w',w.heap.size≤b→Blk w' b v.cells.toList e→Ext w w'→Gr w w'→K (updo ρ dst (jp b)) w'):
  St1 P f n R k ⟨dst,.box e x,ty,pos,af,none⟩ ρ w K:=
 St1.val (x_box hx) (h _ _ (Nat.le_refl _) (blk_push w _ e) (Ext.push w _) (Gr.push w _))
theorem St1.buildSliceG {t e:TypeId}{bytes len:Nat}{z:Value}{agg:Bool}{parts:List (Nat×Operand)}(ys:List α)(ht:P.underlying t=some (.slice e))(he:Ty P e (Enc.size α) bytes z agg)
  (hlen:len=ys.length) (hp:(parts.map fun(i,x)=>(i,rd n ρ x))=((ys.map Enc.val).zipIdx 0).map fun x=>(x.2,x.1)) (hl:ys.length*Enc.size α≤16777216)
  (h:∀b w',w.heap.size≤b→OwnSl w' e (some ⟨b,0,none⟩) ys.length ys→Ext w w'→Gr w w'→K (updo ρ dst (.slice (some ⟨b,0,none⟩) ys.length ys.length)) w'):
  St1 P f n R k ⟨dst,.buildSlice t len parts.toArray,ty,pos,af,none⟩ ρ w K:=by
 subst hlen
 have hpos:=Enc.pos (α:=α)
 have hm:ys.length≤ys.length*Enc.size α:=Nat.le_mul_of_pos_right _ hpos
 have hr:=run_buildSlice (P:=P) (w:=w) ht he ys (parts.toArray.map fun(i,x)=>(i,rd n ρ x)) (by simpa using hp) hl
 refine St1.val (v:= .slice (some ⟨w.heap.size,0,none⟩) ys.length ys.length) (w':={w with heap:=w.heap.push (.cells (flat ys).toArray e)}) ?_ (h _ _ (Nat.le_refl _) (own_push w e ys (by simp only[maxLen];omega)) (Ext.push w _) (Gr.push w _))
 simp only[execOp,Sem.run_bind,hr,Result.andThen_ok,Sem.run_pure]
theorem x_gtS {t t':TypeId}{x y:Operand}{a b:ByteArray}{g:Option (Nat×Bool)}(hx:rd n ρ x= .string a)(hy:rd n ρ y= .string b):X P n ρ ⟨dst,.binOp .gtr t x y t',ty,pos,af,g⟩ w (.bool (decide (b.data.toList<a.data.toList))) w:=by
 have e:(!decide (a.data.toList<b.data.toList)&& !(a.data.toList==b.data.toList))=decide (b.data.toList<a.data.toList):=by
  rw[Bool.eq_iff_iff]
  simp only[Bool.and_eq_true,Bool.not_eq_true',decide_eq_false_iff_not,decide_eq_true_eq,beq_eq_false_iff_ne]
  exact⟨fun h=>Decidable.byContradiction fun h2=>h.2 (ltL_tri h.1 h2),fun h=>⟨fun h2=>ltL_irr _ (ltL_trans h h2),fun h2=>by rw[h2]at h;exact ltL_irr _ h⟩⟩
 rw[←e]
 simp[X,execOp,hx,hy,eqGuard,binOp,Op.stringOp,bytesLess_eq,ByteArray.toList_eq]
end
theorem itemsN_succ {es:List EntryC}{i:Nat}{x:EntryC}(hx:es[i]? =some x):itemsN (es.take (i+1))=itemsN (es.take i)+(if ∃y,(es.take i).getLast? =some y∧y.item=x.item then 0 else 1):=by
 rw[take_snocD hx,itemsN_snoc]
theorem itemsN_new0 {es:List EntryC}{i:Nat}{x:EntryC}(hx:es[i]? =some x)(h:i=0):itemsN (es.take (i+1))=itemsN (es.take i)+1:=by
 rw[itemsN_succ hx,if_neg];subst h;rintro⟨y,hy,-⟩;simp at hy
theorem itemsN_new {es:List EntryC}{i:Nat}{x y:EntryC}(hx:es[i]? =some x)(h:0<i)(hy:es[i-1]? =some y)(hn:¬y.item=x.item):itemsN (es.take (i+1))=itemsN (es.take i)+1:=by
 rw[itemsN_succ hx,if_neg];rintro⟨z,hz,e⟩;rw[last_take h hy]at hz;cases hz;exact hn e
theorem itemsN_same {es:List EntryC}{i:Nat}{x y:EntryC}(hx:es[i]? =some x)(h:0<i)(hy:es[i-1]? =some y)(hn:y.item=x.item):itemsN (es.take (i+1))=itemsN (es.take i):=by
 rw[itemsN_succ hx,if_pos ⟨y,last_take h hy,hn⟩];rfl
theorem itemsN_zero (es:List EntryC):itemsN (es.take 0)=0:=rfl
theorem itemsN_takeLe (es:List EntryC)(i:Nat):itemsN (es.take i)≤es.length:=Nat.le_trans (itemsN_le _) (by rw[List.length_take];omega)
attribute [local irreducible] mayD smD ltD ltM ordD mkN Cov CovR
attribute [local irreducible] ltE cmpE itemsN errE firstE canE canX Gr
attribute [local irreducible] X
theorem ordEG (a b:EntryC)(w:World)(ha:smD a.dot)(hb:smD b.dot):
  Calls Tryz.prog 104 #[.agg #[.string ((a).item),.int .i64 (((a).dot).node),.int .i64 (((a).dot).life),.int .i64 (((a).dot).count),.int .i64 ((a).qty),.int .u64 ((a).price)],.agg #[.string ((b).item),.int .i64 (((b).dot).node),.int .i64 (((b).dot).life),.int .i64 (((b).dot).count),.int .i64 ((b).qty),.int .u64 ((b).price)]] w (Ret (fun v w'=>v= .int .i64 (ordE a b)∧Ext w w'∧Gr w w')):=by
 unfold smD at ha hb;obtain⟨ha1,ha2,ha3⟩:=ha;obtain⟨hb1,hb2,hb3⟩:=hb;have G0:=Gr.refl w;refine calls_run (n:=45) Tryz.func104 rfl rfl rfl ?_;refine jG ?_;refine jR<|St1.boxG (v:= .agg #[.string ((a).item),.int .i64 (((a).dot).node),.int .i64 (((a).dot).life),.int .i64 (((a).dot).count),.int .i64 ((a).qty),.int .u64 ((a).price)]) rfl ?_;intro a3 a7 a4 a1 a8 hG_;replace a1:Blk a7 a3 [.string ((a).item),.int .i64 (((a).dot).node),.int .i64 (((a).dot).life),.int .i64 (((a).dot).count),.int .i64 ((a).qty),.int .u64 ((a).price)] 89:=a1;have:w.heap.size≤a3:=a4;clear a4;have K0:=(a8:Ext w _);replace G0:=Gr.trans G0 hG_;clear hG_;refine jR<|St1.boxG (v:= .agg #[.string ((b).item),.int .i64 (((b).dot).node),.int .i64 (((b).dot).life),.int .i64 (((b).dot).count),.int .i64 ((b).qty),.int .u64 ((b).price)]) rfl ?_;intro a9 aa a2 a5 a6 hG_;replace a5:Blk aa a9 [.string ((b).item),.int .i64 (((b).dot).node),.int .i64 (((b).dot).life),.int .i64 (((b).dot).count),.int .i64 ((b).qty),.int .u64 ((b).price)] 89:=a5;have aH:=ltLe a1.lt a2;have:=Nat.le_trans K0.size a2;clear a2;replace G0:=Gr.trans G0 hG_;clear hG_;replace a1:=a1.ext a6;refine jG ?_;refine jR<|jC (retSame (Any.strings_Compare cmpSL a.item b.item _)) ?_;rintro _ _ ⟨rfl,rfl⟩;refine jG ?_;refine jV (x_sub rfl rfl (by omega) (by omega)) ?_;refine jG ?_;refine jV (x_sub rfl rfl (by omega) (by omega)) ?_;refine jG ?_;refine jV (x_sub rfl rfl (by omega) (by omega)) ?_;refine jR<|St1.buildSliceG ([(((a).dot).node)-(((b).dot).node),(((a).dot).life)-(((b).dot).life),(((a).dot).count)-(((b).dot).count)]:List Int) Tryz.underlying116 ty3 rfl rfl (by first|decide|(simp[Enc.size])) ?_;intro aI aJ ab a0 ac hG_;clear ab;replace G0:=Gr.trans G0 hG_;clear hG_;refine jV (litI (c:=3) (x_lenSl Tryz.underlying116 rfl) rfl) ?_;refine jG ?_;refine Run.unloop ?_;refine jG ?_;refine jT1 ?_;refine Jct ?_;obtain⟨aK,aL,ad,ae,af,ag⟩:=a0.sl.el (i:=0) (by simp);obtain rfl:(((a).dot).node)-(((b).dot).node)=ad:=Option.some.inj ae;refine jV (x_idxN Tryz.underlying116 ty3 rfl rfl af (by simp)) ?_;refine jV (x_ldV (v:= .int .i64 ((((a).dot).node)-(((b).dot).node))) (y:=(((a).dot).node)-(((b).dot).node)) ty3 rfl ag rfl) ?_;refine jG ?_;replace K0:=(K0.ext a6).ext ac;refine jF ?_ ?_
 ·intro hc41
  refine jG ?_;refine jV (litI (c:=1) (x_add rfl rfl (by decide) (by decide)) (by decide)) ?_;refine jG ?_;refine Run.inLoop ?_;refine jG ?_;refine jT1 ?_;refine Jct ?_;obtain⟨aM,aN,ah,ai,aj,ak⟩:=a0.sl.el (i:=1) (by simp);obtain rfl:(((a).dot).life)-(((b).dot).life)=ah:=Option.some.inj ai;refine jV (x_idxN Tryz.underlying116 ty3 rfl rfl aj (by simp)) ?_;refine jV (x_ldV (v:= .int .i64 ((((a).dot).life)-(((b).dot).life))) (y:=(((a).dot).life)-(((b).dot).life)) ty3 rfl ak rfl) ?_;refine jG ?_;refine jF ?_ ?_
  ·intro hc41
   refine jG ?_;refine jV (litI (c:=2) (x_add rfl rfl (by decide) (by decide)) (by decide)) ?_;refine jG ?_;refine Run.inLoop ?_;refine jG ?_;refine jT1 ?_;refine Jct ?_;obtain⟨aO,aP,al,am,an,ao⟩:=a0.sl.el (i:=2) (by simp);obtain rfl:(((a).dot).count)-(((b).dot).count)=al:=Option.some.inj am;refine jV (x_idxN Tryz.underlying116 ty3 rfl rfl an (by simp)) ?_;refine jV (x_ldV (v:= .int .i64 ((((a).dot).count)-(((b).dot).count))) (y:=(((a).dot).count)-(((b).dot).count)) ty3 rfl ao rfl) ?_;refine jG ?_;refine jF ?_ ?_
   ·intro hc41
    refine jG ?_;refine jV (litI (c:=3) (x_add rfl rfl (by decide) (by decide)) (by decide)) ?_;refine jG ?_;refine Run.inLoop ?_;refine jG ?_;refine Run.condF rfl ?_;refine jG ?_;refine jJ Tryz.func104 ?_;exact⟨_,rfl,by unfold ordE cmpE ordD;(repeat' split)<;>first|rfl|omega,K0,G0⟩
   ·intro hc41
    refine jG ?_;refine jV (litI (c:=3) (x_add rfl rfl (by decide) (by decide)) (by decide)) ?_;refine jG ?_;refine Run.inLoop ?_;refine jG ?_;refine Run.condF rfl ?_;refine jG ?_;refine jJ Tryz.func104 ?_;exact⟨_,rfl,by unfold ordE cmpE ordD;(repeat' split)<;>first|rfl|omega,K0,G0⟩
  ·intro hc41
   refine jG ?_;refine jV (litI (c:=2) (x_add rfl rfl (by decide) (by decide)) (by decide)) ?_;refine jG ?_;refine Run.inLoop ?_;refine jG ?_;refine jT1 ?_;refine Jct ?_;obtain⟨aQ,aR,ap,aq,ar,au⟩:=a0.sl.el (i:=2) (by simp);obtain rfl:(((a).dot).count)-(((b).dot).count)=ap:=Option.some.inj aq;refine jV (x_idxN Tryz.underlying116 ty3 rfl rfl ar (by simp)) ?_;refine jV (x_ldV (v:= .int .i64 ((((a).dot).count)-(((b).dot).count))) (y:=(((a).dot).count)-(((b).dot).count)) ty3 rfl au rfl) ?_;refine jG ?_;refine jF ?_ ?_
   ·intro hc41
    refine jG ?_;refine jV (litI (c:=3) (x_add rfl rfl (by decide) (by decide)) (by decide)) ?_;refine jG ?_;refine Run.inLoop ?_;refine jG ?_;refine Run.condF rfl ?_;refine jG ?_;refine jJ Tryz.func104 ?_;exact⟨_,rfl,by unfold ordE cmpE ordD;(repeat' split)<;>first|rfl|omega,K0,G0⟩
   ·intro hc41
    refine jG ?_;refine jV (litI (c:=3) (x_add rfl rfl (by decide) (by decide)) (by decide)) ?_;refine jG ?_;refine Run.inLoop ?_;refine jG ?_;refine Run.condF rfl ?_;refine jG ?_;refine jJ Tryz.func104 ?_;exact⟨_,rfl,by unfold ordE cmpE ordD;(repeat' split)<;>first|rfl|omega,K0,G0⟩
 ·intro hc41
  refine jG ?_;refine jV (litI (c:=1) (x_add rfl rfl (by decide) (by decide)) (by decide)) ?_;refine jG ?_;refine Run.inLoop ?_;refine jG ?_;refine jT1 ?_;refine Jct ?_;obtain⟨aS,aT,av,aw,ax,ay⟩:=a0.sl.el (i:=1) (by simp);obtain rfl:(((a).dot).life)-(((b).dot).life)=av:=Option.some.inj aw;refine jV (x_idxN Tryz.underlying116 ty3 rfl rfl ax (by simp)) ?_;refine jV (x_ldV (v:= .int .i64 ((((a).dot).life)-(((b).dot).life))) (y:=(((a).dot).life)-(((b).dot).life)) ty3 rfl ay rfl) ?_;refine jG ?_;refine jF ?_ ?_
  ·intro hc41
   refine jG ?_;refine jV (litI (c:=2) (x_add rfl rfl (by decide) (by decide)) (by decide)) ?_;refine jG ?_;refine Run.inLoop ?_;refine jG ?_;refine jT1 ?_;refine Jct ?_;obtain⟨aU,aV,az,aA,aB,aC⟩:=a0.sl.el (i:=2) (by simp);obtain rfl:(((a).dot).count)-(((b).dot).count)=az:=Option.some.inj aA;refine jV (x_idxN Tryz.underlying116 ty3 rfl rfl aB (by simp)) ?_;refine jV (x_ldV (v:= .int .i64 ((((a).dot).count)-(((b).dot).count))) (y:=(((a).dot).count)-(((b).dot).count)) ty3 rfl aC rfl) ?_;refine jG ?_;refine jF ?_ ?_
   ·intro hc41
    refine jG ?_;refine jV (litI (c:=3) (x_add rfl rfl (by decide) (by decide)) (by decide)) ?_;refine jG ?_;refine Run.inLoop ?_;refine jG ?_;refine Run.condF rfl ?_;refine jG ?_;refine jJ Tryz.func104 ?_;exact⟨_,rfl,by unfold ordE cmpE ordD;(repeat' split)<;>first|rfl|omega,K0,G0⟩
   ·intro hc41
    refine jG ?_;refine jV (litI (c:=3) (x_add rfl rfl (by decide) (by decide)) (by decide)) ?_;refine jG ?_;refine Run.inLoop ?_;refine jG ?_;refine Run.condF rfl ?_;refine jG ?_;refine jJ Tryz.func104 ?_;exact⟨_,rfl,by unfold ordE cmpE ordD;(repeat' split)<;>first|rfl|omega,K0,G0⟩
  ·intro hc41
   refine jG ?_;refine jV (litI (c:=2) (x_add rfl rfl (by decide) (by decide)) (by decide)) ?_;refine jG ?_;refine Run.inLoop ?_;refine jG ?_;refine jT1 ?_;refine Jct ?_;obtain⟨aW,aX,aD,aE,aF,aG⟩:=a0.sl.el (i:=2) (by simp);obtain rfl:(((a).dot).count)-(((b).dot).count)=aD:=Option.some.inj aE;refine jV (x_idxN Tryz.underlying116 ty3 rfl rfl aF (by simp)) ?_;refine jV (x_ldV (v:= .int .i64 ((((a).dot).count)-(((b).dot).count))) (y:=(((a).dot).count)-(((b).dot).count)) ty3 rfl aG rfl) ?_;refine jG ?_;refine jF ?_ ?_
   ·intro hc41
    refine jG ?_;refine jV (litI (c:=3) (x_add rfl rfl (by decide) (by decide)) (by decide)) ?_;refine jG ?_;refine Run.inLoop ?_;refine jG ?_;refine Run.condF rfl ?_;refine jG ?_;refine jJ Tryz.func104 ?_;exact⟨_,rfl,by unfold ordE cmpE ordD;(repeat' split)<;>first|rfl|omega,K0,G0⟩
   ·intro hc41
    refine jG ?_;refine jV (litI (c:=3) (x_add rfl rfl (by decide) (by decide)) (by decide)) ?_;refine jG ?_;refine Run.inLoop ?_;refine jG ?_;refine Run.condF rfl ?_;refine jG ?_;refine jJ Tryz.func104 ?_;exact⟨_,rfl,by unfold ordE cmpE ordD;(repeat' split)<;>first|rfl|omega,K0,G0⟩
theorem ordE_ (a b:EntryC)(w:World)(ha:smD a.dot)(hb:smD b.dot):Calls Tryz.prog 104 #[.agg #[.string ((a).item),.int .i64 (((a).dot).node),.int .i64 (((a).dot).life),.int .i64 (((a).dot).count),.int .i64 ((a).qty),.int .u64 ((a).price)],.agg #[.string ((b).item),.int .i64 (((b).dot).node),.int .i64 (((b).dot).life),.int .i64 (((b).dot).count),.int .i64 ((b).qty),.int .u64 ((b).price)]] w (Ret fun v w'=>v= .int .i64 (ordE a b)∧Ext w w'):=(ordEG a b w ha hb).mono fun e w' ⟨v,h1,h2,h3,_⟩=>⟨v,h1,h2,h3⟩
theorem above_ (a b:EntryC)(w:World):
  Calls Tryz.prog 41 #[.agg #[.string ((a).item),.int .i64 (((a).dot).node),.int .i64 (((a).dot).life),.int .i64 (((a).dot).count),.int .i64 ((a).qty),.int .u64 ((a).price)],.agg #[.string ((b).item),.int .i64 (((b).dot).node),.int .i64 (((b).dot).life),.int .i64 (((b).dot).count),.int .i64 ((b).qty),.int .u64 ((b).price)]] w (Ret (fun v w'=>v= .bool (decide (ltE b a))∧Ext w w')):=by
 refine calls_run (n:=20) Tryz.func41 rfl rfl rfl ?_;refine jG ?_;refine jR<|jB ?_;intro a4 a7 a2 a0 a5;have:w.heap.size≤a4:=a2;clear a2;have K0:=(a5:Ext w _);refine jR<|jB ?_;intro a8 a9 a1 aa a3;have ab:=ltLe a0.lt a1;have:=Nat.le_trans K0.size a1;clear a1;replace a0:=a0.ext a3;refine jG ?_;refine jV (x_neS rfl rfl) ?_;refine jG ?_;replace K0:=K0.ext a3;refine jF ?_ ?_
 ·intro hc9
  refine jG ?_;refine jV (x_gtS rfl rfl) ?_;refine jG ?_;refine jJ Tryz.func41 ?_;exact⟨_,rfl,congrArg Value.bool (decide_eq_decide.2 ⟨fun h=>by unfold ltE;exact .inl h,fun h=>by unfold ltE at h;exact h.elim id (fun h2=>absurd h2.1.symm hc9)⟩),K0⟩
 ·intro hc9
  refine jG ?_;refine jR<|jC (below_ ((b).dot) ((a).dot) _) ?_;rintro _ ac ⟨rfl,a6⟩;refine jG ?_;refine jJ Tryz.func41 ?_;replace K0:=K0.ext a6;exact⟨_,rfl,congrArg Value.bool (decide_eq_decide.2 ⟨fun h=>by unfold ltE;exact .inr ⟨hc9.symm,h⟩,fun h=>by unfold ltE at h;exact h.elim (fun h2=>absurd h2 (by rw[hc9];exact ltL_irr _)) And.right⟩),K0⟩
theorem ritems_ (a:Option Addr)(es:List EntryC)(c:Nat)(w:World)(hs:SlOf w a es)(hl:es.length≤4294967295):
  Calls Tryz.prog 42 #[.slice (a) (es.length) (c)] w (Ret (fun v w'=>v= .int .i64 ((itemsN es:Nat):Int)∧Ext w w')):=by
 refine calls_run (n:=30) Tryz.func42 rfl rfl rfl ?_;refine jG ?_;refine Run.loop (ι:=Nat) (fun i ρ' w'=>Holds ρ' [(0,.slice (a) (es.length) (c)),(3,.int .i64 (((itemsN (es.take i):Nat):Int))),(6,.slice (a) (es.length) (c)),(7,.int .i64 (((es.length:Nat):Int))),(8,.int .i64 (((i:Nat):Int)))]∧Ext w w'∧(i≤es.length)) (fun i=>es.length-i) 0 ?_ ?_
 ·rw[itemsN_zero]
  refine⟨⟨rfl,rfl,rfl,rfl,rfl,trivial⟩,(Keeps.refl _ w),?_⟩
  ·omega
 rintro i ac ad ⟨a5,K0,hi⟩ ih1;obtain⟨ρ₀,rfl⟩:=a5.ex;clear a5;refine jG ?_;refine jF ?_ ?_
 ·intro hc9
  refine jG1 ?_;obtain⟨ae,af,x,hx,a7,a1⟩:=hs.eo i;have hc_7_lt:=a1.lt;refine jV (x_idxN Tryz.underlying23 ty89 rfl rfl a7 (by first|omega|(simp only[List.length_set];omega))) ?_;replace a1:=a1.ext K0;refine jG ?_;refine jR<|jA ?_;intro ag ah a3 a0 a8;have ai:=ltLe a1.lt a3;have:=Nat.le_trans K0.size a3;clear a3;refine jG ?_;refine jR<|jS a0 ?_;intro aj a0 a9;refine Jct ?_;replace K0:=(K0.ext a8).n1 a9;by_cases hB:i=0
  ·refine Run.drawR ?_
   intro ak a6;refine jG1 ?_;refine jD (litT (x_eqI rfl rfl) (by simp;omega)) ?_;refine jG ?_;refine jD (x_or (b:=true) (e:=false) rfl rfl rfl) ?_;refine jG ?_;refine jT1 ?_;have hle:=itemsN_takeLe es i;refine jG ?_;refine jV (litI (c:=(((itemsN (es.take i))+1:Nat):Int)) (x_add rfl rfl (by omega) (by omega)) rfl) ?_;refine jG ?_;refine jV (litI (c:=((i+1:Nat):Int)) (x_add rfl rfl (by omega) (by omega)) rfl) ?_;refine jG ?_;have e:=itemsN_new0 hx hB;refine ih1 (i+1) _ _ ?_ (by omega);rw[e];replace a0:=a0.ext a6;replace K0:=K0.ext a6;refine⟨⟨rfl,rfl,rfl,rfl,rfl,trivial⟩,K0,?_⟩
   ·omega
  ·obtain⟨al,aa,y,hy,ab,a2⟩:=hs.el (i:=(((i:Nat):Int)-1).toNat) (by first|omega|(simp only[List.length_set];omega))
   have hc_25_lt:=a2.lt;refine Run.drawR ?_;intro am a4;refine jG1 ?_;refine jD (litF (x_eqI rfl rfl) (by simp;omega)) ?_;refine jG ?_;refine jE ?_ (hx:=by exact fun hg=>(x_sub rfl rfl (by omega) (by omega)));refine jE ?_ (hx:=by exact fun hg=>(x_idxZ Tryz.underlying23 ty89 rfl rfl ab (by omega) (by first|omega|(simp only[List.length_set];omega))));refine jE ?_ (hx:=by exact fun hg=>(x_fld (o':=aa+(((i:Nat):Int)-1).toNat*6+0) Tryz.underlying89 rfl ty9 rfl rfl rfl));replace a2:=(a2.ext K0).ext a4;refine jE ?_ (hx:=by exact fun hg=>(x_ld ty9 rfl rfl (a2.field (i:=0) rfl)));replace a0:=a0.ext a4;refine jG ?_;refine jE ?_ (hx:=by exact fun hg=>(x_neS rfl rfl));refine jD (x_orF rfl rfl rfl) ?_;refine jG ?_;replace K0:=K0.ext a4;refine jF ?_ ?_
   ·intro hc25
    have hle:=itemsN_takeLe es i;refine jG ?_;refine jV (litI (c:=(((itemsN (es.take i))+1:Nat):Int)) (x_add rfl rfl (by omega) (by omega)) rfl) ?_;refine jG ?_;refine jV (litI (c:=((i+1:Nat):Int)) (x_add rfl rfl (by omega) (by omega)) rfl) ?_;refine jG ?_;have e:=itemsN_new hx (by omega) (by rw[←prevN (by omega)];exact hy) hc25;refine ih1 (i+1) _ _ ?_ (by omega);rw[e];refine⟨⟨rfl,rfl,rfl,rfl,rfl,trivial⟩,K0,?_⟩
    ·omega
   ·intro hc25
    refine jG ?_;refine jV (litI (c:=((i+1:Nat):Int)) (x_add rfl rfl (by omega) (by omega)) rfl) ?_;refine jG ?_;have e:=itemsN_same hx (by omega) (by rw[←prevN (by omega)];exact hy) hc25;refine ih1 (i+1) _ _ ?_ (by omega);rw[e];refine⟨⟨rfl,rfl,rfl,rfl,rfl,trivial⟩,K0,?_⟩
    ·omega
 ·intro hc9
  refine jG ?_;refine jJ Tryz.func42 ?_;exact⟨_,rfl,by rw[List.take_of_length_le (by omega)],K0⟩
end Go.Proofs.YtocgdeefgohdhaaGreat
namespace Go.Proofs.YtocgdeefgohdhaaGreat
attribute [local irreducible] RD RS St1 RL RA RT RT1 Run
theorem dots_no {l:List EntryC}{x:EntryC}{j:Nat}(hno:NoB (fun y=>decide (y.dot=x.dot)) l j)(hj:l.length≤j):∀y∈l,y.dot≠x.dot:=fun y hy=>by
 obtain⟨q,hq,rfl⟩:=List.getElem_of_mem hy
 exact of_decide_eq_false (hno q _ (by omega) (List.getElem?_eq_getElem hq))
theorem canE_is {ms:List MarkC}{cl:List DotC}{es:List EntryC}{x:EntryC}{i:Nat}{e:Int}(h:canX ms cl=true)(h2:es.length≤64)(h0:firstE ms cl es i=0)(hx:es[i]? =some x)(he:errE ms cl (es.take i) x=e)(hn:e≠0):canE ms cl es=e:=by
 rw[canE_at h h2 h0 hx (by rw[he];exact hn),he]
theorem firstE_zero (ms:List MarkC)(cl:List DotC)(es:List EntryC):firstE ms cl es 0=0:=rfl
theorem last_lt {es:List EntryC}{i:Nat}{x y:EntryC}(hi:i≤es.length)(hy:es[i-1]? =some y)(h:ltE y x):∀z,(es.take i).getLast? =some z→ltE z x:=fun z hz=>by
 have e:=(last_take_inv hi hz).2
 rw[hy]at e;cases e;exact h
theorem last_0 {es:List EntryC}{i:Nat}{x:EntryC}(hi:i≤es.length)(h:¬0<i):∀z,(es.take i).getLast? =some z→ltE z x:=fun z hz=>absurd (last_take_inv hi hz).1 h
def EntB (es:List EntryC):Prop:=∀x∈es,(0≤x.price∧x.price<18446744073709551616)∧x.item.size≤4294967295
theorem takeLen {α:Type}{l:List α}{i:Nat}(h:i≤l.length):(l.take i).length=i:=by rw[List.length_take];omega
attribute [local irreducible] mayD smD ltD ltM ordD mkN Cov CovR
attribute [local irreducible] ltE cmpE itemsN errE firstE canE canX Gr nameK priceN
attribute [local irreducible] X
theorem entry_ (am:Option Addr)(ms:List MarkC)(cm:Nat)(ac:Option Addr)(cl:List DotC)(cc:Nat)(ae:Option Addr)(es:List EntryC)(ce:Nat)(i:Nat)(x0:EntryC)(w:World)(hcap:es.length≤ce)(hs:SlOf w am ms)(ht:SlOf w ac cl)(hse:SlOf w ae es)(hl:ms.length≤4294967295)(hl2:cl.length≤4294967295)(hl3:es.length≤4294967295)(hcan:canX ms cl=true)(h0:firstE ms cl es i=0)(hx0:es[i]? =some x0)(hp:0≤x0.price∧x0.price<18446744073709551616):
  Calls Tryz.prog 87 #[.agg #[.slice (ae) (es.length) (ce),.slice (am) (ms.length) (cm),.slice (ac) (cl.length) (cc)],.int .i64 (((i:Nat):Int))] w (Ret (fun v w'=>v= .int .i64 (errE ms cl (es.take i) x0)∧Ext w w')):=by
 have hil:=(List.getElem?_eq_some_iff.1 hx0).1;have hcx:=canX_iff.1 hcan;have htl:=takeLen (Nat.le_of_lt hil);refine calls_run (n:=69) Tryz.func87 rfl rfl rfl ?_;refine jG ?_;refine jR<|jB ?_;intro a8 aD ap a1 ay;have:w.heap.size≤a8:=ap;clear ap;have K0:=(ay:Ext w _);refine jG4 ?_;obtain⟨aE,aF,x,hx,az,a4⟩:=hse.eo i;have hc_9_lt:=a4.lt;refine jV (x_idxN Tryz.underlying23 ty89 rfl rfl az (by first|omega|(simp only[List.length_set];omega))) ?_;replace a4:=a4.ext K0;refine jG ?_;refine jR<|jA ?_;intro a5 aG a6 a0 aq;have aH:=ltLe a1.lt a6;have aI:=ltLe a4.lt a6;have:=Nat.le_trans K0.size a6;clear a6;refine jR<|jS a0 ?_;intro aJ a0 ar;obtain rfl:x=x0:=by rw[hx0]at hx;exact(Option.some.inj hx).symm
 clear hx;refine jG ?_;refine jR<|jC (item_ ((x).item) _) ?_;rintro _ aK ⟨rfl,a9⟩;refine jG ?_;replace a1:=((a1.ext aq).kp ar).ext a9;replace K0:=((K0.ext aq).n1 ar).ext a9;replace a0:=a0.ext a9;refine jF ?_ ?_
 ·intro hc13
  refine jG ?_;refine jJ Tryz.func87 ?_;exact⟨_,rfl,by rw[errE_name hc13],K0⟩
 ·intro hc13
  refine jG ?_;refine jV (x_or rfl rfl rfl) ?_;refine jG ?_;refine jF ?_ ?_
  ·intro hc18
   refine jG ?_;refine jJ Tryz.func87 ?_;exact⟨_,rfl,by rw[errE_qty hc13 (by omega)],K0⟩
  ·intro hc18
   refine jG ?_;refine jR<|jC (price_ ((x).price) _ hp.1 hp.2) ?_;rintro _ aL ⟨rfl,aa⟩;refine jG ?_;replace a1:=a1.ext aa;replace a0:=a0.ext aa;replace K0:=K0.ext aa;refine jF ?_ ?_
   ·intro hc27
    refine jG ?_;refine jJ Tryz.func87 ?_;exact⟨_,rfl,by rw[errE_price hc13 (by omega) hc27],K0⟩
   ·intro hc27
    refine Jct ?_;by_cases hA:Cov ms cl x.dot
    ·by_cases hB:0<i
     ·refine Run.drawS [] [0,1001,2,1003,2004,5,6,7,8,9,10,1011,12,13,14,1016,2015,2017,18,19,20,21] ?_
      intro aM ab;replace a1:=a1.ext ab;replace a0:=a0.ext ab;refine jM (jb a1 (jb a0 Jn)) ?_;refine jG ?_;replace K0:=K0.ext ab;refine jU rfl<|jC (covers_ am ms cm ac cl cc ((x).dot) _ (hs.ext K0) (ht.ext K0) (by omega) (by omega)) ?_;rintro _ aN ⟨rfl,ad⟩;replace a1:=a1.ext ad;replace a0:=a0.ext ad;refine Jct ?_;refine jP ?_ (hx:=by exact fun _=>(litF (x_not rfl) (by simp[hA])));refine jG2 ?_;refine jQ ?_ (hx:=by exact fun _ hg=>(litT (x_gtI rfl rfl) (by simp;omega)));refine jG ?_;refine jQ ?_ (hx:=by exact fun _ hg=>(x_sub rfl rfl (by omega) (by omega)));obtain⟨aO,aP,y,hy,aA,a7⟩:=hse.el (i:=(((i:Nat):Int)-1).toNat) (by first|omega|(simp only[List.length_set];omega));have hc_32_lt:=a7.lt;replace K0:=K0.ext ad;refine jQ ?_ (hx:=by exact fun _ hg=>(x_idxZ Tryz.underlying23 ty89 rfl rfl aA (by omega) (by first|omega|(simp only[List.length_set];omega))));refine jG ?_;replace a7:=a7.ext K0;refine jX rfl<|jO (x_ldV (v:= .agg #[.string ((y).item),.int .i64 (((y).dot).node),.int .i64 (((y).dot).life),.int .i64 (((y).dot).count),.int .i64 ((y).qty),.int .u64 ((y).price)]) (y:=y) ty89 rfl a7 rfl) ?_;refine jG ?_;refine jX rfl<|jC (ordE_ y x _ (hcx.cov (firstE_all h0 _ y (by omega) hy).cov).sm (hcx.cov hA).sm) ?_;rintro _ aQ ⟨rfl,af⟩;replace a1:=a1.ext af;replace a0:=a0.ext af;refine jG ?_;refine jQ ?_ (hx:=by exact fun _ hg=>(x_andT rfl rfl rfl));refine jP ?_ (hx:=by exact fun _=>(x_orF rfl rfl rfl));refine jG ?_;replace K0:=K0.ext af;refine jF ?_ ?_
      ·intro hc32
       refine jG ?_;refine jJ Tryz.func87 ?_;exact⟨_,rfl,by rw[errE_cart hc13 (by omega) hc27 (.inr (.inl ⟨y,last_take hB (by rw[←prevN (by omega)];exact hy),(ordE_ge.1 hc32)⟩))],K0⟩
      ·intro hc32
       refine jG ?_;refine jV (litSl (m':=(es.take i).length) (x_sliceTo Tryz.underlying23 ty89 rfl rfl (by omega)) (by rw[List.length_take];omega)) ?_;refine jG ?_;refine Run.loop (ι:=Nat) (fun j ρ' w'=>Holds ρ' [(5,jp a5),(57,.slice (ae) ((es.take i).length) (ce)),(58,.int .i64 ((((es.take i).length:Nat):Int))),(59,.int .i64 (((j:Nat):Int)))]∧Ext w w'∧(Blk w' a8 [.slice (ae) (es.length) (ce),.slice (am) (ms.length) (cm),.slice (ac) (cl.length) (cc)] 29)∧(Blk w' a5 [.string ((x).item),.int .i64 (((x).dot).node),.int .i64 (((x).dot).life),.int .i64 (((x).dot).count),.int .i64 ((x).qty),.int .u64 ((x).price)] 89)∧(j≤(es.take i).length)∧(NoB (fun y=>decide (y.dot=x.dot)) (es.take i) j)) (fun j=>(es.take i).length-j) 0 ?_ ?_
       ·refine⟨⟨rfl,rfl,rfl,rfl,trivial⟩,K0,a1,a0,?_,?_⟩
        ·omega
        ·exact NoB.zero _ _
       clear a1 a0;clear K0;rintro j aR aS ⟨au,K0,a1,a0,hj,hno⟩ ih1;obtain⟨ρ₀,rfl⟩:=au.ex;clear au;refine jG ?_;refine jF ?_ ?_
       ·intro hc60
        obtain⟨aT,aU,z,hz,aV,aB⟩:=((hse.ext K0).take i).eo j;refine jG ?_;refine jR<|jA ?_;intro aW aX a2 av ag;have aY:=ltLe a1.lt a2;have aZ:=ltLe a0.lt a2;have b0:=ltLe aB.lt a2;have:=Nat.le_trans K0.size a2;clear a2;refine jR<|jS av ?_;intro b1 av ah;replace a0:=(a0.ext ag).kp ah;refine jG ?_;refine jV (x_eqA (by kernel_rfl) rfl rfl (eq_DotC ((z).dot) ((x).dot))) ?_;refine jG ?_;replace a1:=(a1.ext ag).kp ah;replace K0:=(K0.ext ag).n1 ah;refine jF ?_ ?_
        ·intro hc67
         refine jG ?_;refine jJ Tryz.func87 ?_;exact⟨_,rfl,by rw[errE_cart hc13 (by omega) hc27 (.inr (.inr ⟨z,mem_of_at hz,hc67⟩))],K0⟩
        ·intro hc67
         refine jG ?_;refine jV (litI (c:=((j+1:Nat):Int)) (x_add rfl rfl (by omega) (by omega)) rfl) ?_;refine jG ?_;refine ih1 (j+1) _ _ ?_ (by omega);refine⟨⟨rfl,rfl,rfl,rfl,trivial⟩,K0,a1,a0,?_,?_⟩
         ·omega
         ·exact hno.step hz (decide_eq_false hc67)
       ·intro hc60
        refine jG ?_;refine jJ Tryz.func87 ?_;exact⟨_,rfl,by rw[errE_ok hc13 (by omega) hc27 hA (last_lt (by omega) (by rw[←prevN (by omega)];exact hy) (ordE_lt.1 (by omega))) (dots_no hno (by omega))],K0⟩
     ·refine Run.drawS [] [0,1001,2,1003,2004,5,6,7,8,9,10,11,12,13,14,15,16,2017,18,19,20,21] ?_
      intro b2 ai;replace a1:=a1.ext ai;replace a0:=a0.ext ai;refine jM (jb a1 (jb a0 Jn)) ?_;refine jG ?_;replace K0:=K0.ext ai;refine jU rfl<|jC (covers_ am ms cm ac cl cc ((x).dot) _ (hs.ext K0) (ht.ext K0) (by omega) (by omega)) ?_;rintro _ b3 ⟨rfl,aj⟩;replace a1:=a1.ext aj;replace a0:=a0.ext aj;refine Jct ?_;refine jP ?_ (hx:=by exact fun _=>(litF (x_not rfl) (by simp[hA])));refine jG2 ?_;refine jQ ?_ (hx:=by exact fun _ hg=>(litF (x_gtI rfl rfl) (by simp;omega)));refine jG ?_;refine jY ?_;refine jG ?_;refine jQ ?_ (hx:=by exact fun _ hg=>(x_and (b:=false) (e:=false) rfl rfl rfl));refine jP ?_ (hx:=by exact fun _=>(x_orF rfl rfl rfl));refine jG ?_;refine Run.condF rfl ?_;refine jG ?_;refine jV (litSl (m':=(es.take i).length) (x_sliceTo Tryz.underlying23 ty89 rfl rfl (by omega)) (by rw[List.length_take];omega)) ?_;refine jG ?_;replace K0:=K0.ext aj;refine Run.loop (ι:=Nat) (fun j ρ' w'=>Holds ρ' [(5,jp a5),(57,.slice (ae) ((es.take i).length) (ce)),(58,.int .i64 ((((es.take i).length:Nat):Int))),(59,.int .i64 (((j:Nat):Int)))]∧Ext w w'∧(Blk w' a8 [.slice (ae) (es.length) (ce),.slice (am) (ms.length) (cm),.slice (ac) (cl.length) (cc)] 29)∧(Blk w' a5 [.string ((x).item),.int .i64 (((x).dot).node),.int .i64 (((x).dot).life),.int .i64 (((x).dot).count),.int .i64 ((x).qty),.int .u64 ((x).price)] 89)∧(j≤(es.take i).length)∧(NoB (fun y=>decide (y.dot=x.dot)) (es.take i) j)) (fun j=>(es.take i).length-j) 0 ?_ ?_
      ·refine⟨⟨rfl,rfl,rfl,rfl,trivial⟩,K0,a1,a0,?_,?_⟩
       ·omega
       ·exact NoB.zero _ _
      clear a1 a0;clear K0;rintro j b4 b5 ⟨aw,K0,a1,a0,hj,hno⟩ ih2;obtain⟨ρ₀,rfl⟩:=aw.ex;clear aw;refine jG ?_;refine jF ?_ ?_
      ·intro hc60
       obtain⟨b6,b7,z,hz,b8,aC⟩:=((hse.ext K0).take i).eo j;refine jG ?_;refine jR<|jA ?_;intro b9 ba a3 ax ak;have bb:=ltLe a1.lt a3;have bc:=ltLe a0.lt a3;have be:=ltLe aC.lt a3;have:=Nat.le_trans K0.size a3;clear a3;refine jR<|jS ax ?_;intro bg ax al;replace a0:=(a0.ext ak).kp al;refine jG ?_;refine jV (x_eqA (by kernel_rfl) rfl rfl (eq_DotC ((z).dot) ((x).dot))) ?_;refine jG ?_;replace a1:=(a1.ext ak).kp al;replace K0:=(K0.ext ak).n1 al;refine jF ?_ ?_
       ·intro hc67
        refine jG ?_;refine jJ Tryz.func87 ?_;exact⟨_,rfl,by rw[errE_cart hc13 (by omega) hc27 (.inr (.inr ⟨z,mem_of_at hz,hc67⟩))],K0⟩
       ·intro hc67
        refine jG ?_;refine jV (litI (c:=((j+1:Nat):Int)) (x_add rfl rfl (by omega) (by omega)) rfl) ?_;refine jG ?_;refine ih2 (j+1) _ _ ?_ (by omega);refine⟨⟨rfl,rfl,rfl,rfl,trivial⟩,K0,a1,a0,?_,?_⟩
        ·omega
        ·exact hno.step hz (decide_eq_false hc67)
      ·intro hc60
       refine jG ?_;refine jJ Tryz.func87 ?_;exact⟨_,rfl,by rw[errE_ok hc13 (by omega) hc27 hA (last_0 (by omega) hB) (dots_no hno (by omega))],K0⟩
    ·refine Run.drawS [] [0,1001,2,1003,2004,5,6,7,8,9,10,11,12,13,14,15,16,2017,18,19,20,21] ?_
     intro bh an;replace a1:=a1.ext an;replace a0:=a0.ext an;refine jM (jb a1 (jb a0 Jn)) ?_;refine jG ?_;replace K0:=K0.ext an;refine jU rfl<|jC (covers_ am ms cm ac cl cc ((x).dot) _ (hs.ext K0) (ht.ext K0) (by omega) (by omega)) ?_;rintro _ bi ⟨rfl,ao⟩;replace a1:=a1.ext ao;replace a0:=a0.ext ao;refine Jct ?_;refine jP ?_ (hx:=by exact fun _=>(litT (x_not rfl) (by simp[hA])));refine jG ?_;refine jY ?_;refine jG ?_;refine jP ?_ (hx:=by exact fun _=>(x_or (b:=true) (e:=false) rfl rfl rfl));refine jG ?_;refine jT1 ?_;refine jG ?_;refine jJ Tryz.func87 ?_;replace K0:=K0.ext ao;exact⟨_,rfl,by rw[errE_cart hc13 (by omega) hc27 (.inl hA)],K0⟩
theorem rCan_ (am:Option Addr)(ms:List MarkC)(cm:Nat)(ac:Option Addr)(cl:List DotC)(cc:Nat)(ae:Option Addr)(es:List EntryC)(ce:Nat)(w:World)(hcap:es.length≤ce)(hs:SlOf w am ms)(ht:SlOf w ac cl)(hse:SlOf w ae es)(hl:ms.length≤4294967295)(hl2:cl.length≤4294967295)(hl3:es.length≤4294967295)(hb:EntB es):
  Calls Tryz.prog 10 #[.agg #[.slice (ae) (es.length) (ce),.slice (am) (ms.length) (cm),.slice (ac) (cl.length) (cc)]] w (Ret (fun v w'=>v= .int .i64 (canE ms cl es)∧Ext w w')):=by
 refine calls_run (n:=80) Tryz.func10 rfl rfl rfl ?_;refine jG ?_;refine jR<|jB ?_;intro a2 aH aq a0 aB;have:w.heap.size≤a2:=aq;clear aq;have K0:=(aB:Ext w _);refine jG ?_;refine jR<|jC (rcan_ am ms cm ac cl cc _ (hs.ext K0) (ht.ext K0) (by omega) (by omega)) ?_;rintro _ aI ⟨rfl,ar⟩;refine jG ?_;replace a0:=a0.ext ar;replace K0:=K0.ext ar;refine jF ?_ ?_
 ·intro hc10
  refine jG ?_;refine jJ Tryz.func10 ?_;exact⟨_,rfl,by rw[canE_ctx hc10],K0⟩
 ·intro hc10
  have hcan:canX ms cl=true:=by simpa using hc10
  refine jG ?_;refine jF ?_ ?_
  ·intro hc14
   refine jG ?_;refine jJ Tryz.func10 ?_;exact⟨_,rfl,by rw[canE_long hcan (by omega)],K0⟩
  ·intro hc14
   refine jG ?_;refine Run.loop (ι:=Nat) (fun i ρ' w'=>Holds ρ' [(1,jp a2),(16,.slice (ae) (es.length) (ce)),(17,.int .i64 (((es.length:Nat):Int))),(18,.int .i64 (((i:Nat):Int)))]∧Ext w w'∧(Blk w' a2 [.slice (ae) (es.length) (ce),.slice (am) (ms.length) (cm),.slice (ac) (cl.length) (cc)] 29)∧(i≤es.length)∧(firstE ms cl es i=0)) (fun i=>es.length-i) 0 ?_ ?_
   ·refine⟨⟨rfl,rfl,rfl,rfl,trivial⟩,K0,a0,?_,?_⟩
    ·omega
    ·exact firstE_zero _ _ _
   clear a0;clear K0;rintro i aJ aK ⟨au,K0,a0,hi,h0⟩ ih1;obtain⟨ρ₀,rfl⟩:=au.ex;clear au;refine jG ?_;refine jF ?_ ?_
   ·intro hc19
    refine jG1 ?_;obtain⟨aL,aM,x,hx,aC,a5⟩:=hse.eo i;have hc_14_lt:=a5.lt;refine jV (x_idxN Tryz.underlying23 ty89 rfl rfl aC (by first|omega|(simp only[List.length_set];omega))) ?_;replace a5:=a5.ext K0;refine jG ?_;refine jR<|jA ?_;intro a6 aN a7 a1 av;have aO:=ltLe a0.lt a7;have aP:=ltLe a5.lt a7;have:=Nat.le_trans K0.size a7;clear a7;refine jG ?_;refine jR<|jS a1 ?_;intro aQ a1 aw;have hcx:=canX_iff.1 hcan;have htl:=takeLen (l:=es) (i:=i) (by omega);have hnm:=(hb x (mem_of_at hx)).2;refine jG ?_;refine jR<|jC (isName_ _ _ (by omega)) ?_;rintro _ aR ⟨rfl,a9⟩;refine jG ?_;replace a0:=((a0.ext av).kp aw).ext a9;replace K0:=((K0.ext av).n1 aw).ext a9;replace a1:=a1.ext a9;refine jF ?_ ?_
    ·intro hc23
     refine jG ?_;refine jJ Tryz.func10 ?_;exact⟨_,rfl,by rw[canE_is hcan (by omega) h0 hx (errE_name hc23) (by decide)],K0⟩
    ·intro hc23
     refine jG ?_;refine jR<|jC (qty_ _ _ _) ?_;rintro _ aS ⟨rfl,aa⟩;refine jG ?_;replace a0:=a0.ext aa;replace a1:=a1.ext aa;replace K0:=K0.ext aa;refine jF ?_ ?_
     ·intro hc28
      refine jG ?_;refine jJ Tryz.func10 ?_;exact⟨_,rfl,by rw[canE_is hcan (by omega) h0 hx (errE_qty hc23 (by omega)) (by decide)],K0⟩
     ·intro hc28
      refine jG ?_;refine jR<|jC (isPrice_ _ _) ?_;rintro _ aT ⟨rfl,ab⟩;refine jG ?_;replace a0:=a0.ext ab;replace a1:=a1.ext ab;replace K0:=K0.ext ab;refine jF ?_ ?_
      ·intro hc33
       refine jG ?_;refine jJ Tryz.func10 ?_;exact⟨_,rfl,by rw[canE_is hcan (by omega) h0 hx (errE_price hc23 (by omega) hc33) (by decide)],K0⟩
      ·intro hc33
       refine Jct ?_;by_cases hA:Cov ms cl x.dot
       ·by_cases hB:0<i
        ·refine Run.drawS [] [0,1001,2,1003,2004,5,6,7,8,9,1010,11,1012,13,14,15,2016,2017,18,19,20,21] ?_
         intro aU ad;replace a0:=a0.ext ad;replace a1:=a1.ext ad;refine jM (jb a0 (jb a1 Jn)) ?_;refine jG ?_;replace K0:=K0.ext ad;refine jU rfl<|jC (rcovers_ am ms cm ac cl cc ((x).dot) _ (hs.ext K0) (ht.ext K0) (by omega) (by omega)) ?_;rintro _ aV ⟨rfl,af⟩;replace a0:=a0.ext af;replace a1:=a1.ext af;refine Jct ?_;refine jP ?_ (hx:=by exact fun _=>(litF (x_not rfl) (by rw[decide_eq_true (hcx.covR.2 hA)];rfl)));refine jG2 ?_;refine jQ ?_ (hx:=by exact fun _ hg=>(litT (x_gtI rfl rfl) (by simp;omega)));refine jG ?_;refine jQ ?_ (hx:=by exact fun _ hg=>(x_sub rfl rfl (by omega) (by omega)));obtain⟨aW,aX,y,hy,aD,a8⟩:=hse.el (i:=(((i:Nat):Int)-1).toNat) (by first|omega|(simp only[List.length_set];omega));have hc_39_lt:=a8.lt;replace K0:=K0.ext af;refine jQ ?_ (hx:=by exact fun _ hg=>(x_idxZ Tryz.underlying23 ty89 rfl rfl aD (by omega) (by first|omega|(simp only[List.length_set];omega))));replace a8:=a8.ext K0;refine jX rfl<|jO (x_ldV (v:= .agg #[.string ((y).item),.int .i64 (((y).dot).node),.int .i64 (((y).dot).life),.int .i64 (((y).dot).count),.int .i64 ((y).qty),.int .u64 ((y).price)]) (y:=y) ty89 rfl a8 rfl) ?_;refine jG ?_;refine jX rfl<|jC (above_ x y _) ?_;rintro _ aY ⟨rfl,ag⟩;replace a0:=a0.ext ag;replace a1:=a1.ext ag;refine jG ?_;refine jQ ?_ (hx:=by exact fun _ hg=>(x_andT rfl rfl rfl));refine jP ?_ (hx:=by exact fun _=>(x_orF rfl rfl rfl));refine jG ?_;replace K0:=K0.ext ag;refine jF ?_ ?_
         ·intro hc38
          refine jG ?_;refine jJ Tryz.func10 ?_;exact⟨_,rfl,by rw[canE_is hcan (by omega) h0 hx (errE_cart hc23 (by omega) hc33 (.inr (.inl ⟨y,last_take hB (by rw[←prevN (by omega)];exact hy),hc38⟩))) (by decide)],K0⟩
         ·intro hc38
          refine jG ?_;refine jV (litSl (m':=(es.take i).length) (x_sliceTo Tryz.underlying23 ty89 rfl rfl (by omega)) (by rw[List.length_take];omega)) ?_;refine jG ?_;refine Run.loop (ι:=Nat) (fun j ρ' w'=>Holds ρ' [(1,jp a2),(4,jp a6),(16,.slice (ae) (es.length) (ce)),(17,.int .i64 (((es.length:Nat):Int))),(18,.int .i64 (((i:Nat):Int))),(19,.bool (decide (((i:Nat):Int)<((es.length:Nat):Int)))),(63,.slice (ae) ((es.take i).length) (ce)),(64,.int .i64 ((((es.take i).length:Nat):Int))),(65,.int .i64 (((j:Nat):Int)))]∧Ext w w'∧(Blk w' a2 [.slice (ae) (es.length) (ce),.slice (am) (ms.length) (cm),.slice (ac) (cl.length) (cc)] 29)∧(Blk w' a6 [.string ((x).item),.int .i64 (((x).dot).node),.int .i64 (((x).dot).life),.int .i64 (((x).dot).count),.int .i64 ((x).qty),.int .u64 ((x).price)] 89)∧(j≤(es.take i).length)∧(NoB (fun y=>decide (y.dot=x.dot)) (es.take i) j)) (fun j=>(es.take i).length-j) 0 ?_ ?_
          ·refine⟨⟨rfl,rfl,rfl,rfl,rfl,rfl,rfl,rfl,rfl,trivial⟩,K0,a0,a1,?_,?_⟩
           ·omega
           ·exact NoB.zero _ _
          clear a0 a1;clear K0;rintro j aZ b0 ⟨ax,K0,a0,a1,hj,hno⟩ ih2;obtain⟨ρ₀,rfl⟩:=ax.ex;clear ax;refine jG ?_;refine jF ?_ ?_
          ·intro hc66
           obtain⟨b1,b2,z,hz,b3,aE⟩:=((hse.ext K0).take i).eo j;refine jG ?_;refine jR<|jA ?_;intro b4 b5 a3 ay ah;have b6:=ltLe a0.lt a3;have b7:=ltLe a1.lt a3;have b8:=ltLe aE.lt a3;have:=Nat.le_trans K0.size a3;clear a3;refine jR<|jS ay ?_;intro b9 ay ai;replace a1:=(a1.ext ah).kp ai;refine jG ?_;refine jV (x_eqA (by kernel_rfl) rfl rfl (eq_DotC ((z).dot) ((x).dot))) ?_;refine jG ?_;replace a0:=(a0.ext ah).kp ai;replace K0:=(K0.ext ah).n1 ai;refine jF ?_ ?_
           ·intro hc73
            refine jG ?_;refine jJ Tryz.func10 ?_;exact⟨_,rfl,by rw[canE_is hcan (by omega) h0 hx (errE_cart hc23 (by omega) hc33 (.inr (.inr ⟨z,mem_of_at hz,hc73⟩))) (by decide)],K0⟩
           ·intro hc73
            refine jG ?_;refine jV (litI (c:=((j+1:Nat):Int)) (x_add rfl rfl (by omega) (by omega)) rfl) ?_;refine jG ?_;refine ih2 (j+1) _ _ ?_ (by omega);refine⟨⟨rfl,rfl,rfl,rfl,rfl,rfl,rfl,rfl,rfl,trivial⟩,K0,a0,a1,?_,?_⟩
            ·omega
            ·exact hno.step hz (decide_eq_false hc73)
          ·intro hc66
           refine jG ?_;refine jV (litI (c:=((i+1:Nat):Int)) (x_add rfl rfl (by omega) (by omega)) rfl) ?_;refine jG ?_;refine ih1 (i+1) _ _ ?_ (by omega);refine⟨⟨rfl,rfl,rfl,rfl,trivial⟩,K0,a0,?_,?_⟩
           ·omega
           ·exact firstE_step h0 hx (errE_ok hc23 (by omega) hc33 hA (last_lt (by omega) (by rw[←prevN (by omega)];exact hy) hc38) (dots_no hno (by omega)))
        ·refine Run.drawS [] [0,1001,2,1003,2004,5,6,7,8,9,10,11,12,13,14,15,16,2017,18,19,20,21] ?_
         intro ba aj;replace a0:=a0.ext aj;replace a1:=a1.ext aj;refine jM (jb a0 (jb a1 Jn)) ?_;refine jG ?_;replace K0:=K0.ext aj;refine jU rfl<|jC (rcovers_ am ms cm ac cl cc ((x).dot) _ (hs.ext K0) (ht.ext K0) (by omega) (by omega)) ?_;rintro _ bb ⟨rfl,ak⟩;replace a0:=a0.ext ak;replace a1:=a1.ext ak;refine Jct ?_;refine jP ?_ (hx:=by exact fun _=>(litF (x_not rfl) (by rw[decide_eq_true (hcx.covR.2 hA)];rfl)));refine jG2 ?_;refine jQ ?_ (hx:=by exact fun _ hg=>(litF (x_gtI rfl rfl) (by simp;omega)));refine jG ?_;refine jY ?_;refine jG ?_;refine jQ ?_ (hx:=by exact fun _ hg=>(x_and (b:=false) (e:=false) rfl rfl rfl));refine jP ?_ (hx:=by exact fun _=>(x_orF rfl rfl rfl));refine jG ?_;refine Run.condF rfl ?_;refine jG ?_;refine jV (litSl (m':=(es.take i).length) (x_sliceTo Tryz.underlying23 ty89 rfl rfl (by omega)) (by rw[List.length_take];omega)) ?_;refine jG ?_;replace K0:=K0.ext ak;refine Run.loop (ι:=Nat) (fun j ρ' w'=>Holds ρ' [(1,jp a2),(4,jp a6),(16,.slice (ae) (es.length) (ce)),(17,.int .i64 (((es.length:Nat):Int))),(18,.int .i64 (((i:Nat):Int))),(19,.bool (decide (((i:Nat):Int)<((es.length:Nat):Int)))),(63,.slice (ae) ((es.take i).length) (ce)),(64,.int .i64 ((((es.take i).length:Nat):Int))),(65,.int .i64 (((j:Nat):Int)))]∧Ext w w'∧(Blk w' a2 [.slice (ae) (es.length) (ce),.slice (am) (ms.length) (cm),.slice (ac) (cl.length) (cc)] 29)∧(Blk w' a6 [.string ((x).item),.int .i64 (((x).dot).node),.int .i64 (((x).dot).life),.int .i64 (((x).dot).count),.int .i64 ((x).qty),.int .u64 ((x).price)] 89)∧(j≤(es.take i).length)∧(NoB (fun y=>decide (y.dot=x.dot)) (es.take i) j)) (fun j=>(es.take i).length-j) 0 ?_ ?_
         ·refine⟨⟨rfl,rfl,rfl,rfl,rfl,rfl,rfl,rfl,rfl,trivial⟩,K0,a0,a1,?_,?_⟩
          ·omega
          ·exact NoB.zero _ _
         clear a0 a1;clear K0;rintro j bc be ⟨az,K0,a0,a1,hj,hno⟩ ih3;obtain⟨ρ₀,rfl⟩:=az.ex;clear az;refine jG ?_;refine jF ?_ ?_
         ·intro hc66
          obtain⟨bg,bh,z,hz,bi,aF⟩:=((hse.ext K0).take i).eo j;refine jG ?_;refine jR<|jA ?_;intro bj bk a4 aA al;have bl:=ltLe a0.lt a4;have bm:=ltLe a1.lt a4;have bn:=ltLe aF.lt a4;have:=Nat.le_trans K0.size a4;clear a4;refine jR<|jS aA ?_;intro bo aA an;replace a1:=(a1.ext al).kp an;refine jG ?_;refine jV (x_eqA (by kernel_rfl) rfl rfl (eq_DotC ((z).dot) ((x).dot))) ?_;refine jG ?_;replace a0:=(a0.ext al).kp an;replace K0:=(K0.ext al).n1 an;refine jF ?_ ?_
          ·intro hc73
           refine jG ?_;refine jJ Tryz.func10 ?_;exact⟨_,rfl,by rw[canE_is hcan (by omega) h0 hx (errE_cart hc23 (by omega) hc33 (.inr (.inr ⟨z,mem_of_at hz,hc73⟩))) (by decide)],K0⟩
          ·intro hc73
           refine jG ?_;refine jV (litI (c:=((j+1:Nat):Int)) (x_add rfl rfl (by omega) (by omega)) rfl) ?_;refine jG ?_;refine ih3 (j+1) _ _ ?_ (by omega);refine⟨⟨rfl,rfl,rfl,rfl,rfl,rfl,rfl,rfl,rfl,trivial⟩,K0,a0,a1,?_,?_⟩
           ·omega
           ·exact hno.step hz (decide_eq_false hc73)
         ·intro hc66
          refine jG ?_;refine jV (litI (c:=((i+1:Nat):Int)) (x_add rfl rfl (by omega) (by omega)) rfl) ?_;refine jG ?_;refine ih1 (i+1) _ _ ?_ (by omega);refine⟨⟨rfl,rfl,rfl,rfl,trivial⟩,K0,a0,?_,?_⟩
          ·omega
          ·exact firstE_step h0 hx (errE_ok hc23 (by omega) hc33 hA (last_0 (by omega) hB) (dots_no hno (by omega)))
       ·refine Run.drawS [] [0,1001,2,1003,2004,5,6,7,8,9,10,11,12,13,14,15,16,2017,18,19,20,21] ?_
        intro bp ao;replace a0:=a0.ext ao;replace a1:=a1.ext ao;refine jM (jb a0 (jb a1 Jn)) ?_;refine jG ?_;replace K0:=K0.ext ao;refine jU rfl<|jC (rcovers_ am ms cm ac cl cc ((x).dot) _ (hs.ext K0) (ht.ext K0) (by omega) (by omega)) ?_;rintro _ bq ⟨rfl,ap⟩;replace a0:=a0.ext ap;replace a1:=a1.ext ap;refine Jct ?_;refine jP ?_ (hx:=by exact fun _=>(litT (x_not rfl) (by rw[decide_eq_false (fun h_=>hA (hcx.covR.1 h_))];rfl)));refine jG ?_;refine jY ?_;refine jG ?_;refine jP ?_ (hx:=by exact fun _=>(x_or (b:=true) (e:=false) rfl rfl rfl));refine jG ?_;refine jT1 ?_;refine jG ?_;refine jJ Tryz.func10 ?_;replace K0:=K0.ext ap;exact⟨_,rfl,by rw[canE_is hcan (by omega) h0 hx (errE_cart hc23 (by omega) hc33 (.inl hA)) (by decide)],K0⟩
   ·intro hc19
    refine jG ?_;refine jR<|jC (ritems_ _ es _ _ (hse.ext K0) (by omega)) ?_;rintro _ bs ⟨rfl,aG⟩;refine jG ?_;replace K0:=K0.ext aG;refine jF ?_ ?_
    ·intro hc79
     refine jG ?_;refine jJ Tryz.func10 ?_;exact⟨_,rfl,by rw[canE_many hcan (by omega) (by rw[←(show i=es.length by omega)];exact h0) (by omega)],K0⟩
    ·intro hc79
     refine jG ?_;refine jJ Tryz.func10 ?_;exact⟨_,rfl,by rw[canE_ok hcan (by omega) (by rw[←(show i=es.length by omega)];exact h0) (by omega)],K0⟩
end Go.Proofs.YtocgdeefgohdhaaGreat
