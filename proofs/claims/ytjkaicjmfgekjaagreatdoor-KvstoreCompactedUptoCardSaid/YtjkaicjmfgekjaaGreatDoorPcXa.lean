/-
  Xa, Xb, Xc, Xd
-/
import Derived.Test.YtjkaicjmfgekjaaGreatDoorPcBits
import Derived.Test.YtjkaicjmfgekjaaGreatDoorPcPanic
import Derived.Test.YtjkaicjmfgekjaaGreatDoorPcI
set_option linter.all false
set_option maxRecDepth 100000
set_option maxHeartbeats 4000000
namespace Go.Proofs.YtjkaicjmfgekjaaGreatDoor
open Go.Proofs.Tryz
attribute [local irreducible] RD RS AB RL RA RT CB Ai
section
def YQ (c:Nat):Nat:=if c%2=1 then(c/2)^^^3988292384 else c/2
def crcN :Nat->Nat->Nat
 |0,c=>c
 |k+1,c=>YQ (crcN k c)
def F6 (c:Nat)(x:UInt8):Nat:=crcN 8 (c^^^x.toNat)
def CV (b:List UInt8):Nat:=b.foldl F6 4294967295
def CP (b:List UInt8):Nat:=CV b^^^4294967295
def WN {c:Nat}(h:c<4294967296):YQ c<4294967296:=by
 unfold YQ;split
 ·exact Nat.xor_lt_two_pow (n:=32) Zo Zd
 omega
def Nv {c:Nat}(h:c<4294967296):∀k,crcN k c<4294967296
 |0=>h
 |k+1=>WN (Nv h k)
def Rr {c:Nat}(h:c<4294967296)(x:UInt8):c^^^x.toNat<4294967296:=
 Nat.xor_lt_two_pow (n:=32) h (by have:=x.toNat_lt;omega)
def WO {c:Nat}(h:c<4294967296)(x:UInt8):F6 c x<4294967296:=Nv (Rr h x) 8
def foldl_crc_lt :∀(b:List UInt8) {c:Nat},c<4294967296->b.foldl F6 c<4294967296
 |[],_,h=>h
 |x::b,_,h=>foldl_crc_lt b (WO h x)
def J5 (b:List UInt8):CV b<4294967296:=foldl_crc_lt b Zd
def Rs (b:List UInt8):CP b<4294967296:=Nat.xor_lt_two_pow (n:=32) (J5 b) Zd
def gV (b:List UInt8):4294967295^^^CV b=CP b:=Nat.xor_comm _ _
def SE {xs:List UInt8}{j:Nat}{x:UInt8}(h:xs[j]? =some x):CV (xs.take (j+1))=F6 (CV (xs.take j)) x:=by
 obtain⟨hj,rfl⟩:=List.getElem?_eq_some_iff.1 h;rw[CV,AaJ hj,Abg];rfl
def Uy {c i:Nat}(h:crcN i c%2=1):crcN (i+1) c=(crcN i c/2)^^^3988292384:=if_pos h
def SF {c i:Nat}(h:¬crcN i c%2=1):crcN (i+1) c=crcN i c/2:=if_neg h
attribute [local irreducible] crcN CV CP F6
def Al (n:Nat):List UInt8:=if h:n<128 then[UInt8.ofNat n]else UInt8.ofNat (n%128+128)::Al (n/128)
def Gy {n:Nat}(h:n<128):Al n=[UInt8.ofNat n]:=by rw[Al,dif_pos h]
def KU {n:Nat}(h:¬n<128):Al n=UInt8.ofNat (n%128+128)::Al (n/128):=by rw[Al,dif_neg h]
def vput_len : ∀ (k n : Nat), n < 128 ^ (k + 1) -> (Al n).length <= k + 1
  | 0, n, h => by rw [Gy (by simpa using h)]; simp
  | k + 1, n, h => by
    by_cases c : n < 128
    · rw [Gy c]; simp
    rw [KU c];have := vput_len k (n / 128) (by rw [Nat.pow_succ] at h; omega);simp only [Aaj]; omega
def Bb {n:Nat}(h:n<9223372036854775808):(Al n).length<=9:=vput_len 8 n (by simpa using h)
def SG {b zs D:List UInt8}{m:Nat}(h:¬m<128)(e:zs++Al m=D):(zs++([UInt8.ofNat (m%128+128)]:List UInt8))++Al (m/128)=D:=by
 rw[<-e,KU h,Aar];rfl
def SI {zs D:List UInt8}{m:Nat}(h:m<128)(e:zs++Al m=D):zs++([UInt8.ofNat m]:List UInt8)=D:=by
 rw[<-e,Gy h]
def KV {zs vs D:List UInt8}(e:zs++vs=D):zs.length<=D.length:=by rw[<-e,Aab];omega
def WP (s:Nat):List UInt8:=[UInt8.ofNat s,UInt8.ofNat (s/256),UInt8.ofNat (s/65536),UInt8.ofNat (s/16777216)]
def Ar (b:List UInt8):List UInt8:=Al b.length++b++WP (CP b)
def CI (b:List UInt8)(h:b.length<9223372036854775808):(Ar b).length<=b.length+13:=by
 have:=Bb h
 simp only[Ar,Aab,WP,Aaj,Aas];omega
attribute [local irreducible] X
def gW (a:Option Addr)(xs:List UInt8)(c:Nat)(w:World)(hs:Ax w a xs)(hl:xs.length<=4294967295):
  Calls prog 156 #[.slice a xs.length c] w (AU (λv w'=>v= .int .i64 ((CP xs:Nat):Int)/\As w w')):=by
 refine kD (n:=32) func156 ?_;refine Ai.loop (ι:=Nat) (λj ρ' w'=>Holds ρ' [(3,.int .u32 ((CV (xs.take j):Nat):Int)),(7,.slice a xs.length c),(8,.int .i64 ((xs.length:Nat):Int)),(9,.int .i64 ((j:Nat):Int))]/\As w w'/\(j<=xs.length)) (λj=>xs.length-j) 0 ?_ ?_
 ·rw[show CV (xs.take 0)=4294967295 by rw[AaF];unfold CV;rfl];refine⟨⟨rfl,rfl,rfl,rfl,trivial⟩,(Ae.refl _ w),?_⟩;omega
 rintro j a3 a4 ⟨a1,K0,hj⟩ ih1;obtain⟨ρ₀,rfl⟩:=a1.ex;clear a1;refine kK ?_ ?_
 ·intro hc10;obtain⟨a5,a6,x,hx,a7,a0⟩:=hs.eo j;have hc_7_lt:=a0.lt;have hlt:=J5 (xs.take j);replace a0:=a0.ext K0;refine jG ?_;refine jV (Es (kd:= .u32) (a:=x.toNat) rfl ⟨_,underlying5⟩ underlying84 (show(x).toNat<4294967296 by have:=UInt8.toNat_lt x;omega)) ?_;refine kE (Uc (kd:= .u32) (a:=CV (xs.take j)) (b:=x.toNat) rfl rfl (show CV (xs.take j)<4294967296 by omega) (show(x).toNat<4294967296 by have:=UInt8.toNat_lt x;omega)) ?_;refine Ai.loop (ι:=Nat) (λi ρ' w'=>Holds ρ' [(3,.int .u32 ((crcN i (CV (xs.take j)^^^x.toNat):Nat):Int)),(7,.slice a xs.length c),(8,.int .i64 ((xs.length:Nat):Int)),(9,.int .i64 ((j:Nat):Int)),(10,.bool (decide (((j:Nat):Int)<((xs.length:Nat):Int)))),(17,.int .i64 ((i:Nat):Int))]/\As w w'/\(i<=8)) (λi=>8-i) 0 ?_ ?_
  ·rw[show crcN 0 (CV (xs.take j)^^^x.toNat)=(CV (xs.take j)^^^x.toNat)by unfold crcN;rfl];refine⟨⟨rfl,rfl,rfl,rfl,rfl,rfl,trivial⟩,K0,?_⟩;omega
  clear K0;rintro i a8 a9 ⟨a2,K0,hi⟩ ih2;obtain⟨ρ₀,rfl⟩:=a2.ex;clear a2;refine kK ?_ ?_
  ·intro hc18;have hlt:=Nv (Rr (J5 (xs.take j)) x) i;refine jG ?_;refine kE (Ue (kd:= .u32) (a:=crcN i (CV (xs.take j)^^^x.toNat)) (b:=1) rfl rfl 1 2 Zd Zd (show crcN i (CV (xs.take j)^^^x.toNat)<4294967296 by omega) Zd) ?_;refine kE (HT (kd:= .u32) (a:=crcN i (CV (xs.take j)^^^x.toNat)) (b:=1) 2 Zd rfl rfl Zd) ?_;refine jF ?_ ?_
   ·intro hc24;have hlt2:crcN i (CV (xs.take j)^^^x.toNat)/2<4294967296:=by omega
    refine jG ?_;refine jV (Uc (kd:= .u32) (a:=(crcN i (CV (xs.take j)^^^x.toNat))/2) (b:=3988292384) rfl rfl (show(crcN i (CV (xs.take j)^^^x.toNat))/2<4294967296 by omega) (show 3988292384<4294967296 by decide)) ?_;refine jG ?_;refine kC i ?_;have e:=Uy (c:=(CV (xs.take j)^^^x.toNat)) (i:=i) Zo;refine ih2 (i+1) _ _ ?_ Zo;rw[e];refine⟨⟨rfl,rfl,rfl,rfl,rfl,rfl,trivial⟩,K0,?_⟩;omega
   intro hc24;refine jG ?_;refine kC i ?_;have e:=SF (c:=(CV (xs.take j)^^^x.toNat)) (i:=i) Zo;refine ih2 (i+1) _ _ ?_ Zo;rw[e];refine⟨⟨rfl,rfl,rfl,rfl,rfl,rfl,trivial⟩,K0,?_⟩;omega
  intro hc18;refine jG ?_;refine kC j ?_;have hi8:i=8:=by omega
  subst hi8;have e:CV (xs.take (j+1))=crcN 8 (CV (xs.take j)^^^x.toNat):=by rw[SE hx];unfold F6;rfl
  refine ih1 (j+1) _ _ ?_ Zo;rw[e];refine⟨⟨rfl,rfl,rfl,rfl,trivial⟩,K0,?_⟩;omega
 intro hc10;have hlt:=J5 (xs.take j);have hlx:4294967295^^^CV (xs.take j)<4294967296:=Nat.xor_lt_two_pow (n:=32) Zd hlt;refine jG ?_;refine jV (Uf (kd:= .u32) (a:=CV (xs.take j)) (m:=4294967295) rfl rfl rfl Zd (show CV (xs.take j)<4294967296 by omega)) ?_;refine kE (Es (kd:= .i64) (a:=4294967295^^^(CV (xs.take j))) rfl ⟨_,underlying84⟩ underlying3 (show 4294967295^^^(CV (xs.take j))<9223372036854775808 by omega)) ?_;refine jJ func156 ?_;have hje:j=xs.length:=by omega
 subst hje;exact⟨_,rfl,by rw[Aap];rw[gV],K0⟩
def SJ (a:Option Addr)(xs:List UInt8)(c n:Nat)(w:World)(hs:Ax w a xs)(hl:xs.length<=1073741824)(hn:n<9223372036854775808):
  Calls prog 122 #[.slice a xs.length c,.int .i64 ((n:Nat):Int)] w (AU (λv w'=>∃a' c',v= .slice a' (xs++Al n).length c'/\Af w' 5 a' c' (xs++Al n)/\(∀b,own a' b->w.heap.size<=b)/\As w w')):=by
 have hv9:=Bb hn;have hD:(xs++Al n).length=xs.length+(Al n).length:=Aab;refine kD (n:=27) func122 ?_;have ab:=Af.nil (α:=UInt8) w 5;refine jR<|AB.append (xs:=([]:List UInt8)) (ys:=xs) underlying98 ty5 rfl rfl rfl ab hs Zr Zd ?_;intro ac av aw a2 ad a3 ae;have af:∀q_,own ac q_->w.heap.size<=q_:=a3.ge (λq_ h1=>absurd h1 (Ad q_)) (Aac _);have K0:=(Ae.refl (λ_=>False) w).new ad (λq_ h1=>absurd h1 (Ad q_));clear a3;clear ae;refine jG ?_;refine jV (AA (c:=((n:Nat):Int)) (I1 rfl rfl) Zo) ?_;refine kE (Es (kd:= .u64) (a:=n) rfl ⟨_,underlying3⟩ underlying74 (show n<18446744073709551616 by omega)) ?_;refine Ai.loop (ι:=Nat) (λm ρ' w'=>∃zs:List UInt8,∃az:Option Addr,∃cz:Nat,Holds ρ' [(5,.slice az zs.length cz),(6,.int .u64 ((m:Nat):Int))]/\As w w'/\(Af w' 5 az cz zs)/\(∀q_,own az q_->w.heap.size<=q_)/\(zs++Al m=xs++Al n)/\(m<=n)) (λm=>m) n ?_ ?_
 ·refine⟨xs,_,_,⟨rfl,rfl,trivial⟩,K0,a2,af,?_,?_⟩
  ·rfl
  omega
 clear a2;clear K0;rintro m ax ay ⟨zs,az,cz,a4,K0,a0,a1,hzs,hm⟩ ih1;obtain⟨ρ₀,rfl⟩:=a4.ex;clear a4;refine kK ?_ ?_
 ·intro hc13;have hzl:=KV hzs;refine jG ?_;refine jV (ES (a:=m) rfl ⟨_,underlying74⟩ underlying5) ?_;refine jV (AA (c:=((UInt8.ofNat (m%128+128)).toNat:Int)) (Rf (kd:= .u8) (a:=(UInt8.ofNat m).toNat) (b:=128) rfl rfl (show(UInt8.ofNat m).toNat<256 by have:=UInt8.toNat_lt (UInt8.ofNat m);omega) (show 128<256 by decide)) (by rw[PT])) ?_;refine jR<|AB.buildSlice ([UInt8.ofNat (m%128+128)]:List UInt8) underlying98 ty5 rfl rfl Ze ?_;intro aA aB ag ah a5;clear ag;replace a0:=a0.ext a5;refine jR<|AB.append (xs:=zs) (ys:=([UInt8.ofNat (m%128+128)]:List UInt8)) underlying98 ty5 rfl rfl rfl a0 ah.sl Zr Zd ?_;intro ai aC aD aj ak a6 al;replace K0:=K0.ext a5;have am:∀q_,own ai q_->w.heap.size<=q_:=a6.ge a1 K0.size;clear a6;clear al;refine jG ?_
  skip;refine jG ?_;refine kE (HT (kd:= .u64) (a:=m) (b:=7) 128 Zd rfl rfl Zd) ?_;refine ih1 (m/128) _ _ ?_ Zo;replace K0:=K0.new ak a1;refine⟨_,_,_,⟨rfl,rfl,trivial⟩,K0,aj,am,?_,?_⟩
  ·exact SG (b:=xs) Zo hzs
  omega
 intro hc13;have hzl:=KV hzs;refine jG ?_;refine jV (ES (a:=m) rfl ⟨_,underlying74⟩ underlying5) ?_;refine jR<|AB.buildSlice ([UInt8.ofNat m]:List UInt8) underlying98 ty5 rfl rfl Ze ?_;intro aE aF an ao a7;clear an;replace a0:=a0.ext a7;refine jR<|AB.append (xs:=zs) (ys:=([UInt8.ofNat m]:List UInt8)) underlying98 ty5 rfl rfl rfl a0 ao.sl Zr Zd ?_;intro a8 ap aG a9 aq aa ar;replace K0:=K0.ext a7;have au:∀q_,own a8 q_->w.heap.size<=q_:=aa.ge a1 K0.size;clear aa;clear ar;refine kL func122 ?_;have e_:=SI Zo hzs;rw[e_]at a9⊢;replace K0:=K0.new aq a1;exact⟨_,rfl,a8,ap,rfl,a9,au,K0⟩
def KW (a:Option Addr)(xs:List UInt8)(c:Nat)(w:World)(hs:Ax w a xs)(hl:xs.length<=65536):
  Calls prog 94 #[.slice a xs.length c] w (AU (λv w'=>∃a' c',v= .tuple #[.slice a' (Ar xs).length c',.int .i64 0]/\Af w' 5 a' c' (Ar xs)/\(∀b,own a' b->w.heap.size<=b)/\As w w')):=by
 have hv9:=Bb (n:=xs.length) Zo;have hcs:=Rs xs;refine kD (n:=30) func94 ?_;refine jF ?_ ?_
 ·intro hc8;exact absurd hc8 Zo
 intro hc8;refine jG ?_;refine kS (gW _ _ _ _ hs Zo) ?_;rintro _ al ⟨rfl,a9⟩;have K0:=(a9:As w _);refine jG ?_;refine kS (SJ none ([]:List UInt8) 0 xs.length _ (Ax.nil _ _) (Aal _) Zo) ?_;rintro _ am ⟨an,ao,rfl,aa,a1,ab⟩;have a2:=Bg K0.size a1;clear a1;refine jG ?_;replace K0:=K0.ext ab;refine jR<|AB.append (xs:=([]:List UInt8)++Al xs.length) (ys:=xs) underlying98 ty5 rfl rfl rfl aa (hs.ext K0) (by rw[Aay];omega) Zd ?_;intro ac ap aq a0 ad a3 ae;have a4:∀q_,own ac q_->w.heap.size<=q_:=a3.ge a2 K0.size;clear a3;clear ae;refine jG ?_;refine kE (ES (a:=CP xs) rfl ⟨_,underlying3⟩ underlying5) ?_;refine jV (HT (kd:= .i64) (a:=CP xs) (b:=8) 256 Zd rfl rfl Zd) ?_;refine kE (ES (a:=(CP xs)/256) rfl ⟨_,underlying3⟩ underlying5) ?_;refine jV (HT (kd:= .i64) (a:=CP xs) (b:=16) 65536 Zd rfl rfl Zd) ?_;refine kE (ES (a:=(CP xs)/65536) rfl ⟨_,underlying3⟩ underlying5) ?_;refine jV (HT (kd:= .i64) (a:=CP xs) (b:=24) 16777216 Zd rfl rfl Zd) ?_;refine jV (ES (a:=(CP xs)/16777216) rfl ⟨_,underlying3⟩ underlying5) ?_;refine jR<|AB.buildSlice ([UInt8.ofNat (CP xs),UInt8.ofNat ((CP xs)/256),UInt8.ofNat ((CP xs)/65536),UInt8.ofNat ((CP xs)/16777216)]:List UInt8) underlying98 ty5 rfl rfl Ze ?_;intro ar au af ag a5;clear af;replace a0:=a0.ext a5;refine jR<|AB.append (xs:=(([]:List UInt8)++Al xs.length)++xs) (ys:=([UInt8.ofNat (CP xs),UInt8.ofNat ((CP xs)/256),UInt8.ofNat ((CP xs)/65536),UInt8.ofNat ((CP xs)/16777216)]:List UInt8)) underlying98 ty5 rfl rfl rfl a0 ag.sl (by rw[Aay,Aab];simp only[Aaj,Aas];omega) Zd ?_;intro a6 ah av a7 ai a8 aj;replace K0:=(K0.new ad a2).ext a5;have ak:∀q_,own a6 q_->w.heap.size<=q_:=a8.ge a4 K0.size;clear a8;clear aj;refine kM func94 ?_;have e_:((([]:List UInt8)++Al xs.length)++xs)++([UInt8.ofNat (CP xs),UInt8.ofNat ((CP xs)/256),UInt8.ofNat ((CP xs)/65536),UInt8.ofNat ((CP xs)/16777216)]:List UInt8)=Ar xs:=by rw[Aay];rfl
 rw[e_]at a7⊢;replace K0:=K0.new ai a4;exact⟨_,rfl,a6,ah,rfl,a7,ak,K0⟩
end
section
def WQ (e:Int)(w:World):(Instr.typeAssert (.iface 34 (.int .i64 e)) 20 34 true).run prog w= .ok (.tuple #[.int .i64 e,.bool true]) w:=by
 simp[Instr.typeAssert,run_underlying underlying34]
def WR (w:World):(Instr.typeAssert .nilIface 20 34 true).run prog w= .ok (.tuple #[.int .i64 0,.bool false]) w:=by
 have hz:(zeroValue 34).run prog w= .ok (.int .i64 0) w:=(X4 (P:=prog) (size:=1) (bytes:=8) (agg:=false) Zk Zk).run_zero;simp[Instr.typeAssert,run_underlying underlying34,hz]
def JV (b:Nat)(x e:Int)(older:List PanicEntry)(w:World)(hc:w.cell? ⟨b,0,none⟩=some (.int .i64 x))(hz:w.frozen? ⟨b,0,none⟩=false):
  CallsD prog 275 #[jp b] (.panicking ({v:= .iface 34 (.int .i64 e),recovered:=false}::older)) w λr u' w'=>
   r= .returned (.tuple #[])/\u'= .panicking ({v:= .iface 34 (.int .i64 e),recovered:=true}::older)/\w'=w.setCell ⟨b,0,none⟩ (.int .i64 e):=by
 refine callsD_of_wpS func275 rfl λc₀ cs hu=> ?_;apply wpS_seq;apply wpS_region;simp[wpOpsS,go_sem,recoverD,hu,Tryz.ntmps275,Exit.thenS];apply wpS_seq;apply wpS_region;simp[wpOpsS,go_sem,recoverD,hu,Tryz.ntmps275,Exit.thenS,WQ];apply wpS_seq;apply wpS_seq;apply wpS_region;simp[wpOpsS,go_sem,recoverD,hu,Tryz.ntmps275,Exit.thenS,Region.wanted,yielded];refine wpS_cond (t:=false) (by simp[Act.eval,Array.replicate]) ?_;refine wpS_of_wp (wp_skip ?_);simp only[Exit.thenS];apply wpS_region;simp[wpOpsS,go_sem,hc,hz,bodyPostS,results,Tryz.results275]
def Qb (b:Nat)(x:Int)(w:World)(hc:w.cell? ⟨b,0,none⟩=some (.int .i64 x))(hz:w.frozen? ⟨b,0,none⟩=false):
  CallsD prog 275 #[jp b] .returning w λr u' w'=>
   r= .returned (.tuple #[])/\u'= .returning/\w'=w.setCell ⟨b,0,none⟩ (.int .i64 0):=by
 refine callsD_of_wpS func275 rfl λc₀ cs hu=> ?_;apply wpS_seq;apply wpS_region;simp[wpOpsS,go_sem,recoverD,hu,Tryz.ntmps275,Exit.thenS];apply wpS_seq;apply wpS_region;simp[wpOpsS,go_sem,recoverD,hu,Tryz.ntmps275,Exit.thenS,WR];apply wpS_seq;apply wpS_seq;apply wpS_region;simp[wpOpsS,go_sem,recoverD,hu,Tryz.ntmps275,Exit.thenS,Region.wanted,yielded];refine wpS_cond (t:=false) (by simp[Act.eval,Array.replicate]) ?_;refine wpS_of_wp (wp_skip ?_);simp only[Exit.thenS];apply wpS_region;simp[wpOpsS,go_sem,hc,hz,bodyPostS,results,Tryz.results275];cases c₀
 simp_all
def FV (w:World)(b o:Nat)(v:Value):Ae (one b) w (w.setCell ⟨b,o,none⟩ v):=
 ⟨rfl,rfl,rfl,by simp[World.setCell],λk _ hn=>by
  simp only[World.setCell,Abd];rw[if_neg (λe=>hn e.symm)]⟩
def AC.cell0 {w:World}{b:Nat}{v:Value}{T:TypeId}(h:AC w b [v] T):w.cell? ⟨b,0,none⟩=some v:=h.cl.head
def AC.thaw0 {w:World}{b:Nat}{c:List Value}{T:TypeId}(h:AC w b c T)(o:Nat):w.frozen? ⟨b,o,none⟩=false:=by
 unfold AC at h;simp[World.frozen?,h]
def AC.setCell0 {w:World}{b:Nat}{v u:Value}{T:TypeId}(h:AC w b [v] T):AC (w.setCell ⟨b,0,none⟩ u) b [u] T:=by
 unfold AC at*;simp[World.setCell,Abd,h]
def gX (g:FuncId)(caps:List Value)(w:World)(R:Ending->World->Prop)(Φ:World->Prop)(Ψ:Int->World->Prop)(he:DQ prog g)
  (hc:Calls prog g caps.toArray (w.alloc (.cells #[.int .i64 0] 34)) (YP (λ_ w'=>Φ w') (λch w'=>∃e,ch=F4 34 (.int .i64 e)/\Ψ e w')))
  (hk:∀w',Φ w'->AC w' w.heap.size [.int .i64 0] 34) (hk2:∀e w',Ψ e w'->AC w' w.heap.size [.int .i64 0] 34)
  (h1:∀w' w2,Φ w'->Ae (one w.heap.size) w' w2->R (.returned (.int .i64 0)) w2)
  (h2:∀e w' w2,Ψ e w'->Ae (one w.heap.size) w' w2->R (.returned (.int .i64 e)) w2):
  Calls prog 226 #[.func (.func g) #[] caps.toArray] w R:=by
 refine calls_of_wp_defers func226 rfl ?_;have hmf:∀(fn:Fn) (first cap:Array Value) (w:World),(Instr.makeFunc fn first cap).run prog w= .ok (.func fn first cap) w:=λ_ _ _ _=>rfl
 apply wp_seq;apply wp_region_lit;simp[wpList,go_sem,Tryz.ntmps226,Exit.then];refine .inl ?_;apply wp_seq;apply wp_region_lit;simp[wpList,go_sem,Tryz.ntmps226,Exit.then,hmf];refine .inl (.inl ?_);apply wp_seq;apply wp_region_lit;have he2:∀w,(callFunc g caps.toArray).run prog w= .ok (.enter g caps.toArray) w:=he caps.toArray;simp[wpList,go_sem,Tryz.ntmps226,Exit.then,hmf,he2];refine .inl (.inl (hc.mono ?_));rintro e w' (⟨v,rfl,hΦ⟩|⟨ch,rfl,e,rfl,hΨ⟩)
 ·have hb:=hk w' hΦ;simp only[];apply wp_seq;apply wp_region_lit;simp[wpList,go_sem,Exit.then,hb.cell0,hb.thaw0 0];refine .inl (wp_ret ?_);refine leaves_cons (f:=275) (args:=#[jp w.heap.size]) Zs (by simp[go_sem]) ?_;refine(Qb w.heap.size 0 _ hb.setCell0.cell0 (hb.setCell0.thaw0 0)).mono ?_;rintro e' u' w'' ⟨rfl,rfl,rfl⟩;simp[Leaves,settle,results,Tryz.results226,go_sem,hb.setCell0.setCell0.cell0];exact h1 w' _ hΦ ((FV ..).trans (FV ..) λ_ _ h=>h)
 have hb:=hk2 e w' hΨ;refine leaves_cons (f:=275) (args:=#[jp w.heap.size]) Zs (by simp[go_sem]) ?_;refine(JV w.heap.size 0 e [] w' hb.cell0 (hb.thaw0 0)).mono ?_;rintro e' u' w'' ⟨rfl,rfl,rfl⟩;simp[Leaves,settle,results,Tryz.results226,go_sem,hb.setCell0.cell0];exact h2 e w' _ hΨ (FV ..)
def Co (i n:Nat):List UInt8->Except Int (Nat×Nat)
 |[]=> .error 2
 |x::r=>if i=8/\128<=x.toNat then .error 5 else if x.toNat<128 then(if 0<i/\x.toNat=0 then .error 10 else .ok (n+x.toNat%128*2^(7*i),i+1))else Co (i+1) (n+x.toNat%128*2^(7*i)) r
def J6 {bs:List UInt8}{k:Nat}{x:UInt8}(h:bs[k]? =some x):bs.drop k=x::bs.drop (k+1):=by
 obtain⟨hi,rfl⟩:=List.getElem?_eq_some_iff.1 h;exact AbC hi
section
variable {bs :List UInt8}{k i n:Nat}{x:UInt8}
def Uz (h:bs.length<=k):Co i n (bs.drop k)= .error 2:=by rw[Aa0 h,Co]
def Qc (h:bs[k]? =some x)(h1:i=8)(h2:128<=x.toNat):Co i n (bs.drop k)= .error 5:=by rw[J6 h,Co,if_pos ⟨h1,h2⟩]
def SK (h:bs[k]? =some x)(h1:0<i)(h2:x.toNat=0):Co i n (bs.drop k)= .error 10:=by rw[J6 h,Co,if_neg Zo,if_pos Zo,if_pos ⟨h1,h2⟩]
def WS (h:bs[k]? =some x)(h1:x.toNat<128)(h2:¬(0<i/\x.toNat=0)):Co i n (bs.drop k)= .ok (n+x.toNat%128*2^(7*i),i+1):=by rw[J6 h,Co,if_neg Zo,if_pos h1,if_neg h2]
def SL (h:bs[k]? =some x)(h1:¬(i=8/\128<=x.toNat))(h2:¬x.toNat<128):Co i n (bs.drop k)=Co (i+1) (n+x.toNat%128*2^(7*i)) (bs.drop (k+1)):=by rw[J6 h,Co,if_neg h1,if_neg h2]
end
def Rt {i:Nat}(h:i<=8):2^(7*i)<=72057594037927936:=Aaa (Ab8 Zd (show 7*i<=56 by omega)) Zd
def Jc (i:Nat):2^(7*(i+1))=128*2^(7*i):=by rw[Nat.mul_add,Nat.pow_add,Abc]
def Ru (x i:Nat):x%128*2^(7*i)<=127*2^(7*i):=AaZ _ Zo
def numL_bnd : ∀ (bs : List UInt8) (i n : Nat) {v k : Nat}, n < 2 ^ (7 * i) -> i <= 8 -> Co i n bs = .ok (v, k) -> v < 9223372036854775808 /\ i < k /\ k <= i + bs.length
  | [], i, n, v, k, _, _, h => by rw [Co] at h; cases h
  | x :: r, i, n, v, k, hn, hi, h => by
    have h1 := Jc i;have h2 := Ru x.toNat i;have h3 := Rt hi;rw [Co] at h;by_cases c1 : i = 8 /\ 128 <= x.toNat
    · rw [if_pos c1] at h; cases h
    rw [if_neg c1] at h;by_cases c2 : x.toNat < 128
    · rw [if_pos c2] at h;by_cases c3 : 0 < i /\ x.toNat = 0
      · rw [if_pos c3] at h; cases h
      rw [if_neg c3] at h;simp only [Except.ok.injEq, Prod.mk.injEq] at h;simp only [Aaj];omega
    rw [if_neg c2] at h;have := numL_bnd r (i + 1) _ Zo Zo h;simp only [Aaj];omega
def UA {bs:List UInt8}{v k:Nat}(h:Co 0 0 bs= .ok (v,k)):v<9223372036854775808/\0<k/\k<=bs.length:=by have:=numL_bnd bs 0 0 Zd Zd h;omega
def numL_err : ∀ (bs : List UInt8) (i n : Nat) {e : Int}, Co i n bs = .error e -> e ≠ 0
  | [], i, n, e, h => by rw [Co] at h; cases h; decide
  | x :: r, i, n, e, h => by
    rw [Co] at h;split at h
    · cases h; decide
    split at h
    · split at h
      · cases h; decide
      cases h
    exact numL_err r _ _ h
def leL :List UInt8->Nat
 |[]=>0
 |x::r=>x.toNat+256*leL r
def leL_snoc : ∀ (a : List UInt8) (x : UInt8), leL (a ++ [x]) = leL a + x.toNat * 2 ^ (8 * a.length)
  | [], x => by simp [leL]
  | y :: a, x => by
    have := leL_snoc a x;rw [AaW, leL, this, leL, Aaj, Nat.mul_add 8, Nat.pow_add, Nat.mul_add, <- Abs];congr 1;rw [show (2 : Nat) ^ (8 * 1) = 256 from rfl, Abc (2 ^ (8 * a.length)) 256, Nat.mul_left_comm]
def leL_lt : ∀ (a : List UInt8), leL a < 2 ^ (8 * a.length)
  | [] => by simp [leL]
  | y :: a => by
    have := leL_lt a;have h2 := y.toNat_lt;rw [leL, Aaj, Nat.mul_add 8, Nat.pow_add, show (2 : Nat) ^ (8 * 1) = 256 from rfl];omega
def YR {F:List UInt8}{i:Nat}{x:UInt8}(h:F[i]? =some x):leL (F.take (i+1))=leL (F.take i)+x.toNat*2^(8*i):=by
 obtain⟨hi,rfl⟩:=List.getElem?_eq_some_iff.1 h;rw[AaJ hi,leL_snoc,List.length_take,Abv Zo]
def SM {F:List UInt8}{i:Nat}(h:i<=F.length):leL (F.take i)<2^(8*i):=by have:=leL_lt (F.take i);rwa[List.length_take,Abv h]at this
def WT {i:Nat}(h:i<=3):2^(8*i)<=16777216:=Aaa (Ab8 Zd (show 8*i<=24 by omega)) Zd
def UB (x:UInt8)(i:Nat):x.toNat*2^(8*i)<=255*2^(8*i):=AaZ _ (by have:=x.toNat_lt;omega)
def C9 (b:List UInt8):Except Int (List UInt8×List UInt8):=match Co 0 0 b with
 | .error e=> .error e
 | .ok (n,k)=>if 65536<n then .error 4 else if b.length-k<n+4 then .error 2 else if leL ((b.drop (k+n)).take 4)≠CP ((b.drop k).take n)then .error 11 else .ok ((b.drop k).take n,b.drop (k+n+4))
section
variable {b :List UInt8}{n k:Nat}{e:Int}
def UC (h:Co 0 0 b= .error e):C9 b= .error e:=by rw[C9,h]
def SN (h:Co 0 0 b= .ok (n,k))(h1:65536<n):C9 b= .error 4:=by rw[C9,h];exact if_pos h1
def Qd (h:Co 0 0 b= .ok (n,k))(h1:¬65536<n)(h2:b.length-k<n+4):C9 b= .error 2:=by rw[C9,h];exact(if_neg h1).trans (if_pos h2)
def UD (h:Co 0 0 b= .ok (n,k))(h1:¬65536<n)(h2:¬b.length-k<n+4)(h3:leL ((b.drop (k+n)).take 4)≠CP ((b.drop k).take n)):C9 b= .error 11:=by rw[C9,h];exact(if_neg h1).trans ((if_neg h2).trans (if_pos h3))
def Rv (h:Co 0 0 b= .ok (n,k))(h1:¬65536<n)(h2:¬b.length-k<n+4)(h3:leL ((b.drop (k+n)).take 4)=CP ((b.drop k).take n)):C9 b= .ok ((b.drop k).take n,b.drop (k+n+4)):=by rw[C9,h];exact(if_neg h1).trans ((if_neg h2).trans (if_neg (by simpa using h3)))
def OB (h:C9 b= .error e):e≠0:=by
 rw[C9]at h;split at h
 ·rename_i h2;cases h;exact numL_err _ _ _ h2
 split at h
 ·cases h;decide
 split at h
 ·cases h;decide
 split at h
 ·cases h;decide
 cases h
def KX {P R:List UInt8}(h:C9 b= .ok (P,R)):R.length+P.length+5<=b.length/\P.length<=65536:=by
 rw[C9]at h;split at h
 ·cases h
 rename_i n k h2;have h3:=UA h2;split at h
 ·cases h
 split at h
 ·cases h
 split at h
 ·cases h
 simp only[Except.ok.injEq,Prod.mk.injEq]at h;obtain⟨rfl,rfl⟩:=h;simp only[List.length_drop,List.length_take];omega
end
def Mt (bs:List UInt8)(p n:Nat):(bs.take (p+n)).drop p=(bs.drop p).take n:=by rw[List.drop_take,Nat.add_sub_cancel_left]
attribute [local irreducible] Co leL C9 crcN CV CP F6 X
def i7 (e:Int)(w:World):
  Calls prog 181 #[.int .i64 e] w (YP (λ_ _=>False) (λch w'=>ch=F4 34 (.int .i64 e)/\w'=w)):=by
 refine kD (n:=4) func181 ?_;refine jV (PX (v:= .int .i64 e) underlying34 rfl) ?_;refine jR<|AB.panic (t:=34) (v:= .int .i64 e) rfl func181 ?_;exact .inr ⟨_,rfl,rfl,rfl⟩
def SO (e:Int)(w:World):Calls prog 181 #[.int .i64 e] w (λr w'=>∃ch,r= .panicked ch/\(ch=F4 34 (.int .i64 e)/\w'=w)):=(i7 e w).mono λr w' h=>h.elim (λ⟨_,_,h⟩=>h.elim) id
def J7 (b:Nat)(a:Option Addr)(c:Nat)(bs:List UInt8)(p:Nat)(w:World)(hb:AC w b [.slice a bs.length c,.int .i64 ((p:Nat):Int),.bool true] 244)(ho:Af w 5 a c bs)(hab:¬own a b)(hp:p<=bs.length)(hl:bs.length<=1073741824):
  Calls prog 187 #[jp b] w (AU (λv w'=>v= .bool true/\As w w')):=by
 refine kD (n:=11) func187 ?_;refine kE (DR (EW underlying187 rfl rfl) rfl) ?_;refine kE (BP rfl rfl rfl) ?_;refine jJ func187 ?_;exact⟨_,rfl,rfl,(Ae.refl _ w)⟩
def Nw (b:Nat)(a:Option Addr)(c:Nat)(bs:List UInt8)(p:Nat)(w:World)(hb:AC w b [.slice a bs.length c,.int .i64 ((p:Nat):Int),.bool true] 244)(ho:Af w 5 a c bs)(hab:¬own a b)(hp:p<=bs.length)(hl:bs.length<=1073741824):
  Calls prog 121 #[jp b] w (AU (λv w'=>v= .int .i64 ((bs.length-p:Nat):Int)/\As w w')):=by
 refine kD (n:=16) func121 ?_;refine kS (J7 _ _ _ _ p _ hb ho hab Zr Zr) ?_;rintro _ a2 ⟨rfl,a0⟩;have K0:=(a0:As w _);refine kE (Bp (b:=true) rfl) ?_;refine kH ?_;refine Ai.drawR ?_;intro a3 a1;replace hb:=(hb.ext a0).ext a1;refine jG ?_;refine jD (AA (c:=((bs.length-p:Nat):Int)) (B8 rfl rfl Zo Zo) Zo) ?_;refine kL func121 ?_;replace K0:=K0.ext a1;exact⟨_,rfl,rfl,K0⟩
def J8 (b:Nat)(a:Option Addr)(c:Nat)(bs:List UInt8)(p:Nat)(n:Nat)(w:World)(hb:AC w b [.slice a bs.length c,.int .i64 ((p:Nat):Int),.bool true] 244)(ho:Af w 5 a c bs)(hab:¬own a b)(hp:p<=bs.length)(hl:bs.length<=1073741824)(hn:p+n<=bs.length):
  Calls prog 182 #[jp b,.int .i64 ((n:Nat):Int)] w (AU (λv w'=>∃a' c',v= .slice a' ((bs.drop p).take n).length c'/\Af w' 5 a' c' ((bs.drop p).take n)/\(∀q,own a' q->w.heap.size<=q)/\AC w' b [.slice a bs.length c,.int .i64 ((p+n:Nat):Int),.bool true] 244/\Ae (one b) w w')):=by
 have hcap:=ho.le_cap;refine kD (n:=31) func182 ?_;refine Ai.drawS [] [0,1,2,1003,4,5,6,1007,8,9,10,1011,12,13,14,2015,16] ?_;intro a6 a1;have K0:=(a1:As w _).to (S:=(one b));replace hb:=hb.ext a1;refine kF (jb hb Jn) ?_;refine jP ?_ (hx:=by exact λ_=>(AA (c:=((p+n:Nat):Int)) (Av rfl rfl Zo Zo) rfl));refine jP ?_ (hx:=by exact λ_=>(HH (m':=((bs.take (p+n)).drop p).length) (Sl underlying98 ty5 rfl rfl rfl Zo Zo) (by rw[List.length_drop,List.length_take];omega)));have a7:=Af.nil (α:=UInt8) a6 5;replace ho:=ho.ext a1;refine jU rfl<|AB.append (xs:=([]:List UInt8)) (ys:=(bs.take (p+n)).drop p) underlying98 ty5 rfl rfl rfl a7 ((ho.sl.take (p+n)).from p c Zt) (by simp only[Aas,List.length_drop,List.length_take];omega) Zd ?_;intro a2 a8 ac a0 a4 a3 a9;have aa:¬own a2 b:=a3.not (Ad b) hb.lt;have ab:∀q_,own a2 q_->w.heap.size<=q_:=a3.ge (λq_ h1=>absurd h1 (Ad q_)) K0.size;replace K0:=K0.trans a4 (λx hlt hx=>(λq_ h1 _=>absurd h1 (Ad q_)) x hx hlt);clear a3;clear a9;replace hb:=hb.keep a4 (Ad b);refine jG ?_;refine kE (AA (c:=((p+n:Nat):Int)) (Av rfl rfl Zo Zo) rfl) ?_;refine jR<|jS hb ?_;intro ad hb a5;replace K0:=K0.tf a5 rfl;refine kL func182 ?_;replace a0:=a0.kO a5 (Aa aa);rw[Aay,Mt]at a0;rw[show(([]:List UInt8)++((bs.take (p+n)).drop p))=(bs.drop p).take n by rw[Aay,Mt]];exact⟨_,rfl,a2,a8,rfl,a0,ab,hb,K0⟩
def Mu (b:Nat)(a:Option Addr)(c:Nat)(bs:List UInt8)(p:Nat)(w:World)(hb:AC w b [.slice a bs.length c,.int .i64 ((p:Nat):Int),.bool true] 244)(ho:Af w 5 a c bs)(hab:¬own a b)(hp:p<=bs.length)(hl:bs.length<=1073741824):
  Calls prog 228 #[jp b] w (YP (λv w'=>∃n k,Co 0 0 (bs.drop p)= .ok (n,k)/\v= .int .i64 ((n:Nat):Int)/\AC w' b [.slice a bs.length c,.int .i64 ((p+k:Nat):Int),.bool true] 244/\Ae (one b) w w') (λch w'=>∃e,Co 0 0 (bs.drop p)= .error e/\ch=F4 34 (.int .i64 e)/\Ae (one b) w w')):=by
 refine kD (n:=59) func228 ?_;refine Ai.drawR ?_;intro a3 a0;have K0:=(a0:As w _).to (S:=(one b));replace hb:=hb.ext a0;refine jG ?_;replace ho:=ho.ext a0;refine Ai.loop (ι:=Nat) (λi ρ' w'=>∃n:Nat,Holds ρ' [(0,jp b),(3,.int .i64 ((n:Nat):Int)),(4,.int .i64 ((p+i:Nat):Int)),(5,.int .i64 ((i:Nat):Int))]/\Ae (one b) w w'/\(AC w' b [.slice a bs.length c,.int .i64 ((p:Nat):Int),.bool true] 244)/\(Af w' 5 a c bs)/\(i<=8)/\(p+i<=bs.length)/\(n<2^(7*i))/\(Co 0 0 (bs.drop p)=Co i n (bs.drop (p+i)))) (λi=>8-i) 0 ?_ ?_
 ·refine⟨0,⟨rfl,rfl,rfl,rfl,trivial⟩,K0,hb,ho,?_,?_,?_,?_⟩
  ·omega
  ·omega
  ·decide
  rfl
 clear ho hb;clear K0;rintro i a4 a5 ⟨n,a1,K0,hb,ho,hi,hpi,hn,hN⟩ ih1;obtain⟨ρ₀,rfl⟩:=a1.ex;clear a1;refine kK ?_ ?_
 ·intro hc19;refine jG ?_;refine jR<|AB.callP (vals:=[.int .i64 2]) en181.h rfl (F5 (SO 2 _)) func228 ?_ ?_
  ·rintro _ _ ⟨rfl,rfl⟩;exact .inr ⟨_,rfl,2,hN.trans (Uz Zo),rfl,K0⟩
  exact λ_ _ h=>h.elim
 intro hc19;obtain⟨a6,a7,x,hx,a8,a9⟩:=ho.sl.el (i:=p+i) Zl;refine jG ?_;refine kE (Es (kd:= .i64) (a:=x.toNat) rfl ⟨_,underlying5⟩ underlying3 (show(x).toNat<9223372036854775808 by have:=UInt8.toNat_lt x;omega)) ?_;refine jV (AA (c:=(((p+i)+1:Nat):Int)) (Av rfl rfl Zo Zo) rfl) ?_;refine jG ?_;refine kE (Bo rfl rfl rfl) ?_;refine jF ?_ ?_
 ·intro hc36;refine jG ?_;refine jR<|AB.callP (vals:=[.int .i64 5]) en181.h rfl (F5 (SO 5 _)) func228 ?_ ?_
  ·rintro _ _ ⟨rfl,rfl⟩;exact .inr ⟨_,rfl,5,hN.trans (Qc hx Zo Zo),rfl,K0⟩
  exact λ_ _ h=>h.elim
 intro hc36;have hp7:=Rt (i:=i) Zo;have hd7:=Ru x.toNat i;have hs7:=Jc i;have hx8:=x.toNat_lt;refine jG ?_;refine kE (Ue (kd:= .i64) (a:=x.toNat) (b:=127) rfl rfl 7 128 Zd Zd (show(x).toNat<9223372036854775808 by have:=UInt8.toNat_lt x;omega) Zd) ?_;refine jV (AA (c:=((7*i:Nat):Int)) (Q7 rfl rfl Zo Zo) rfl) ?_;refine jV (PS (kd:= .i64) (a:=(x.toNat)%128) (b:=7*i) rfl rfl (show 7*i<=64 by omega) (show _<9223372036854775808 by omega)) ?_;refine jV (AA (c:=((n+x.toNat%128*2^(7*i):Nat):Int)) (Rf (kd:= .i64) (a:=n) (b:=((x.toNat)%128)*2^(7*i)) rfl rfl (show _<9223372036854775808 by omega) (show _<9223372036854775808 by omega)) (by rw[KC _ _ _ hn])) ?_;refine kK ?_ ?_
 ·intro hc46;refine jG ?_;refine kE (Bo rfl rfl rfl) ?_;refine jF ?_ ?_
  ·intro hc52;refine jG ?_;refine jR<|AB.callP (vals:=[.int .i64 10]) en181.h rfl (F5 (SO 10 _)) func228 ?_ ?_
   ·rintro _ _ ⟨rfl,rfl⟩;exact .inr ⟨_,rfl,10,hN.trans (SK hx Zo Zo),rfl,K0⟩
   exact λ_ _ h=>h.elim
  intro hc52;refine jG ?_;refine jR<|jS hb ?_;intro aa hb a2;replace K0:=K0.tf a2 rfl;refine kL func228 ?_;replace ho:=ho.kO a2 (Aa hab);exact .inl ⟨_,rfl,_,_,hN.trans (WS hx Zo Zo),rfl,hb,K0⟩
 intro hc46;refine jG ?_;refine kC i ?_;refine ih1 (i+1) _ _ ?_ Zo;refine⟨n+x.toNat%128*2^(7*i),⟨rfl,rfl,rfl,rfl,trivial⟩,K0,hb,ho,?_,?_,?_,?_⟩
 ·omega
 ·omega
 ·omega
 exact hN.trans (SL hx Zo Zo)
end
section
attribute [local irreducible] crcN CV CP F6 Co leL C9
abbrev FT (q r b:Nat):Nat->Prop:=λx=>x=q\/x=r\/x=b
attribute [local irreducible] X
def Rw (a:Option Addr)(xs:List UInt8)(c:Nat)(w:World)(hs:Ax w a xs)(hl:xs.length<=1073741824):
  Calls prog 115 #[.slice a xs.length c] w (AU (λv w'=>∃b a' c',v=jp b/\AC w' b [.slice a' xs.length c',.int .i64 0,.bool true] 244/\Af w' 5 a' c' xs/\¬own a' b/\w.heap.size<=b/\(∀q,own a' q->w.heap.size<=q)/\As w w')):=by
 refine kD (n:=7) func115 ?_;have a7:=Af.nil (α:=UInt8) w 5;refine jR<|AB.append (xs:=([]:List UInt8)) (ys:=xs) underlying98 ty5 rfl rfl rfl a7 hs (by simp only[Aas];omega) Zd ?_;intro a1 a3 ad a0 a8 a4 a9;have aa:∀q_,own a1 q_->w.heap.size<=q_:=a4.ge (λq_ h1=>absurd h1 (Ad q_)) (Aac _);have K0:=(Ae.refl (λ_=>False) w).new a8 (λq_ h1=>absurd h1 (Ad q_));clear a4;clear a9;refine jV (AO (cells:=#[.slice a1 ((([]:List UInt8)++xs).length) a3,.int .i64 0,.bool true]) Zk) ?_;refine kQ ?_;intro ab ae a2 a5 a6;have ac:=An a0.oL a2;have:=Aaa K0.size a2;clear a2;refine kL func115 ?_;replace a0:=a0.ext a6;rw[Aay]at a5 a0;replace K0:=K0.ext a6;exact⟨_,rfl,ab,a1,a3,rfl,a5,a0,ac,by omega,aa,K0⟩
def gY (p q r b:Nat)(a:Option Addr)(c:Nat)(bs:List UInt8)(w:World)(hp:AC w p [jp b] 187)(hq:AC w q [.slice none 0 0] 98)(hr:AC w r [.slice none 0 0] 98)(hb:AC w b [.slice a bs.length c,.int .i64 0,.bool true] 244)(ho:Af w 5 a c bs)(hop:¬own a p)(hoq:¬own a q)(hor:¬own a r)(hob:¬own a b)(hpq:p≠q/\p≠r/\p≠b/\q≠r/\q≠b/\r≠b)(hl:bs.length<=1073741824):
  Calls prog 274 #[jp p,jp q,jp r] w (YP (λv w'=>∃P R a1 c1 a2 c2,C9 bs= .ok (P,R)/\v= .tuple #[]/\AC w' q [.slice a1 P.length c1] 98/\Af w' 5 a1 c1 P/\AC w' r [.slice a2 R.length c2] 98/\Af w' 5 a2 c2 R/\(∀x,own a1 x->¬own a2 x)/\(∀x,own a1 x->w.heap.size<=x)/\(∀x,own a2 x->w.heap.size<=x)/\Ae (FT q r b) w w') (λch w'=>∃e,C9 bs= .error e/\ch=F4 34 (.int .i64 e)/\Ae (FT q r b) w w')):=by
 obtain⟨hn1,hn2,hn3,hn4,hn5,hn6⟩:=hpq;refine kD (n:=46) func274 ?_;refine jR<|AB.callP (vals:=[jp b]) en228.h rfl (Mu _ _ _ _ 0 _ hb ho hob Zr Zr) func274 ?_ ?_
 ·rintro _ aD ⟨e,hE,rfl,ar⟩;have K0:=(Ae.refl (FT q r b) w).tf ar (.inr (.inr rfl));exact .inr ⟨_,rfl,e,UC (by rw[List.drop_zero]at hE;exact hE),rfl,K0⟩
 rintro _ aE ⟨nn,kk,hN,rfl,aj,a9⟩;have K0:=(Ae.refl (FT q r b) w).tf a9 (.inr (.inr rfl));replace hb:=aj;clear aj;rw[List.drop_zero]at hN;rw[Aaq]at hb;have hN3:=UA hN;refine jG ?_;replace ho:=ho.kO a9 (Aa hob);replace hp:=hp.kp a9;replace hq:=hq.kp a9;replace hr:=hr.kp a9;refine jF ?_ ?_
 ·intro hc10;refine jG ?_;refine jR<|AB.callP (vals:=[.int .i64 4]) en181.h rfl (F5 (SO 4 _)) func274 ?_ ?_
  ·rintro _ _ ⟨rfl,rfl⟩;exact .inr ⟨_,rfl,4,SN hN Zo,rfl,K0⟩
  exact λ_ _ h=>h.elim
 intro hc10;refine jG ?_;refine kS (Nw _ _ _ _ kk _ hb ho hob Zr Zr) ?_;rintro _ aF ⟨rfl,a6⟩;refine jG ?_;refine kE (AA (c:=((nn+4:Nat):Int)) (Av rfl rfl Zo Zo) rfl) ?_;replace ho:=ho.ext a6;replace hp:=hp.ext a6;replace hq:=hq.ext a6;replace hr:=hr.ext a6;replace hb:=hb.ext a6;replace K0:=K0.ext a6;refine jF ?_ ?_
 ·intro hc16;refine jG ?_;refine jR<|AB.callP (vals:=[.int .i64 2]) en181.h rfl (F5 (SO 2 _)) func274 ?_ ?_
  ·rintro _ _ ⟨rfl,rfl⟩;exact .inr ⟨_,rfl,2,Qd hN Zo Zo,rfl,K0⟩
  exact λ_ _ h=>h.elim
 intro hc16;refine jG ?_;refine kS (J8 _ _ _ _ kk nn _ hb ho hob Zr Zr Zr) ?_;rintro _ aG ⟨ah,ai,rfl,a0,aa,ak,ab⟩;have au:=Ay aa hq.lt;have av:=Ay aa hr.lt;have al:=Ay aa hb.lt;have aw:=Bg K0.size aa;clear aa;replace K0:=K0.tf ab (.inr (.inr rfl));replace hb:=ak;clear ak;replace hq:=hq.kp ab;refine jR<|jS hq ?_;intro aH hq a7;replace K0:=K0.tf a7 (.inl rfl);replace hp:=(hp.kp ab).kp a7;refine jG ?_;replace ho:=(ho.kO ab (Aa hob)).kO a7 (Aa hoq);replace hb:=hb.kp a7;refine kS (J8 _ _ _ _ (kk+nn) 4 _ hb ho hob Zr Zr Zr) ?_;rintro _ aI ⟨am,an,rfl,ac,ax,ao,a8⟩;clear ax;replace K0:=K0.tf a8 (.inr (.inr rfl));replace hb:=ao;clear ao;refine jG ?_;replace hr:=((hr.kp ab).kp a7).kp a8;replace a0:=(a0.kO a7 (Aa au)).kO a8 (Aa al);replace ho:=ho.kO a8 (Aa hob);replace hp:=hp.kp a8;replace hq:=hq.kp a8;refine Ai.loop (ι:=Nat) (λi ρ' w'=>Holds ρ' [(0,jp p),(1,jp q),(2,jp r),(4,.int .i64 ((leL (((bs.drop (kk+nn)).take 4).take i):Nat):Int)),(22,.slice am (((bs.drop (kk+nn)).take 4).length) an),(23,.int .i64 ((((bs.drop (kk+nn)).take 4).length:Nat):Int)),(24,.int .i64 ((i:Nat):Int))]/\Ae (FT q r b) w w'/\(AC w' p [jp b] 187)/\(AC w' q [.slice ah (((bs.drop kk).take nn).length) ai] 98)/\(AC w' r [.slice none 0 0] 98)/\(AC w' b [.slice a bs.length c,.int .i64 (((kk+nn)+4:Nat):Int),.bool true] 244)/\(Af w' 5 a c bs)/\(Af w' 5 ah ai ((bs.drop kk).take nn))/\(Af w' 5 am an ((bs.drop (kk+nn)).take 4))/\(i<=((bs.drop (kk+nn)).take 4).length)) (λi=>4-i) 0 ?_ ?_
 ·rw[show(leL (((bs.drop (kk+nn)).take 4).take 0))=0 by rw[AaF];unfold leL;rfl];refine⟨⟨rfl,rfl,rfl,rfl,rfl,rfl,rfl,trivial⟩,K0,hp,hq,hr,hb,ho,a0,ac,?_⟩;omega
 clear ho hp hq hr hb a0 ac;clear K0;rintro i aJ aK ⟨ap,K0,hp,hq,hr,hb,ho,a0,ac,hi⟩ ih1;obtain⟨ρ₀,rfl⟩:=ap.ex;clear ap;refine kK ?_ ?_
 ·intro hc25;obtain⟨aL,aM,x,hx,aN,aO⟩:=ac.sl.eo i;have hF:((bs.drop (kk+nn)).take 4).length=4:=by rw[List.length_take,List.length_drop];omega
  have hp8:=WT (i:=i) Zo;have hd8:=UB x i;have hle:=SM (F:=(bs.drop (kk+nn)).take 4) (i:=i) Zo;refine jG ?_;refine kE (Es (kd:= .i64) (a:=x.toNat) rfl ⟨_,underlying5⟩ underlying3 (show(x).toNat<9223372036854775808 by have:=UInt8.toNat_lt x;omega)) ?_;refine jV (AA (c:=((8*i:Nat):Int)) (Q7 rfl rfl Zo Zo) rfl) ?_;refine jV (PS (kd:= .i64) (a:=x.toNat) (b:=8*i) rfl rfl (show 8*i<=64 by omega) (show _<9223372036854775808 by omega)) ?_;refine jV (AA (c:=((leL (((bs.drop (kk+nn)).take 4).take i)+x.toNat*2^(8*i):Nat):Int)) (Rf (kd:= .i64) (a:=leL (((bs.drop (kk+nn)).take 4).take i)) (b:=(x.toNat)*2^(8*i)) rfl rfl (show _<9223372036854775808 by omega) (show _<9223372036854775808 by omega)) (by rw[KC _ _ _ hle])) ?_;refine jG ?_;refine kC i ?_;have e:=YR hx;refine ih1 (i+1) _ _ ?_ Zo;rw[e];refine⟨⟨rfl,rfl,rfl,rfl,rfl,rfl,rfl,trivial⟩,K0,hp,hq,hr,hb,ho,a0,ac,?_⟩;omega
 intro hc25;have hPl:((bs.drop kk).take nn).length<=nn:=Aba ..;have hF:((bs.drop (kk+nn)).take 4).length=4:=by rw[List.length_take,List.length_drop];omega
 have hF4:leL (((bs.drop (kk+nn)).take 4).take i)=leL ((bs.drop (kk+nn)).take 4):=by rw[AaB Zo]
 refine jG ?_;refine kS (gW _ _ _ _ a0.sl Zo) ?_;rintro _ aP ⟨rfl,a3⟩;refine jG ?_;replace hp:=hp.ext a3;replace hq:=hq.ext a3;replace hr:=hr.ext a3;replace hb:=hb.ext a3;replace ho:=ho.ext a3;replace a0:=a0.ext a3;replace K0:=K0.ext a3;refine jF ?_ ?_
 ·intro hc40;refine jG ?_;refine jR<|AB.callP (vals:=[.int .i64 11]) en181.h rfl (F5 (SO 11 _)) func274 ?_ ?_
  ·rintro _ _ ⟨rfl,rfl⟩;exact .inr ⟨_,rfl,11,UD hN Zo Zo (λe_=>hc40 (by rw[hF4,e_])),rfl,K0⟩
  exact λ_ _ h=>h.elim
 intro hc40;refine jG ?_;refine Ai.drawS [4] [1000,1001,2002,2003,2004] ?_;intro aQ a4;replace hp:=hp.ext a4;refine kF (jb hp Jn) ?_;replace hb:=hb.ext a4;replace ho:=ho.ext a4;refine jU rfl<|jC (Nw _ _ _ _ ((kk+nn)+4) _ hb ho hob Zr Zr) ?_;rintro _ aR ⟨rfl,a5⟩;replace hp:=hp.ext a5;refine jG ?_;replace hb:=hb.ext a5;replace ho:=ho.ext a5;refine jU rfl<|jC (J8 _ _ _ _ ((kk+nn)+4) (bs.length-((kk+nn)+4)) _ hb ho hob Zr Zr Zr) ?_;rintro _ aS ⟨ay,az,rfl,ae,af,aq,ad⟩;replace hr:=(hr.ext a4).ext a5;have aA:=Ay af hr.lt;replace a0:=(a0.ext a4).ext a5;have aB:=Ag af a0.oL;replace K0:=(K0.ext a4).ext a5;have aC:=Bg K0.size af;clear af;replace K0:=K0.tf ad (.inr (.inr rfl));replace hb:=aq;clear aq;replace hp:=hp.kp ad;refine jG ?_;replace hr:=hr.kp ad;refine jU rfl<|jS hr ?_;intro aT hr ag;replace K0:=K0.tf ag (.inr (.inl rfl));refine jG ?_;refine Ai.fin0 func274 rfl ?_;have eR:(bs.drop ((kk+nn)+4)).take (bs.length-((kk+nn)+4))=bs.drop (kk+nn+4):=AaB Zh;replace ae:=ae.kO ag (Aa aA);rw[eR]at hr ae;replace hq:=(((hq.ext a4).ext a5).kp ad).kp ag;replace a0:=(a0.kO ad (Aa al)).kO ag (Aa av);exact .inl ⟨_,rfl,_,_,ah,ai,ay,az,Rv hN Zo Zo (by rw[<-hF4];exact_mod_cast hc40),rfl,hq,a0,hr,ae,(Zf aB),aw,aC,K0⟩
def ja (p q r b:Nat)(a:Option Addr)(c:Nat)(bs:List UInt8)(w:World)(hp:AC w p [jp b] 187)(hq:AC w q [.slice none 0 0] 98)(hr:AC w r [.slice none 0 0] 98)(hb:AC w b [.slice a bs.length c,.int .i64 0,.bool true] 244)(ho:Af w 5 a c bs)(hop:¬own a p)(hoq:¬own a q)(hor:¬own a r)(hob:¬own a b)(hpq:p≠q/\p≠r/\p≠b/\q≠r/\q≠b/\r≠b)(hl:bs.length<=1073741824):Calls prog 226 #[.func (.func 274) #[] #[jp p,jp q,jp r]] w (AU λv w'=>(∃P R a1 c1 a2 c2,C9 bs= .ok (P,R)/\v= .int .i64 0/\AC w' q [.slice a1 P.length c1] 98/\Af w' 5 a1 c1 P/\AC w' r [.slice a2 R.length c2] 98/\Af w' 5 a2 c2 R/\(∀x,own a1 x->¬own a2 x)/\(∀x,own a1 x->w.heap.size<=x)/\(∀x,own a2 x->w.heap.size<=x)/\Ae (FT q r b) w w')\/(∃e,C9 bs= .error e/\v= .int .i64 e/\Ae (FT q r b) w w')):=by
 have KA:As w (w.alloc (.cells #[.int .i64 0] 34)):=As.push _ _;have hsz:(w.alloc (.cells #[.int .i64 0] 34)).heap.size=w.heap.size+1:=by
  show(w.heap.push _).size=_
  rw[Array.size_push]
 have hnew:AC (w.alloc (.cells #[.int .i64 0] 34)) w.heap.size [.int .i64 0] 34:=by
  show(w.heap.push _)[w.heap.size]? =_
  rw[Array.getElem?_push_size]
 have l1:=hq.lt;have l2:=hr.lt;have l3:=hb.lt;have hnf:¬FT q r b w.heap.size:=by simp only[FT];omega
 refine gX 274 [jp p,jp q,jp r] w _
  (λw'=>∃P R a1 c1 a2 c2,C9 bs= .ok (P,R)/\AC w' q [.slice a1 P.length c1] 98/\Af w' 5 a1 c1 P/\AC w' r [.slice a2 R.length c2] 98/\Af w' 5 a2 c2 R/\(∀x,own a1 x->¬own a2 x)/\(∀x,own a1 x->w.heap.size+1<=x)/\(∀x,own a2 x->w.heap.size+1<=x)/\Ae (FT q r b) (w.alloc (.cells #[.int .i64 0] 34)) w')
  (λe w'=>C9 bs= .error e/\Ae (FT q r b) (w.alloc (.cells #[.int .i64 0] 34)) w') en274.h ?_ ?_ ?_ ?_ ?_
 ·refine(gY p q r b a c bs _ (hp.ext KA) (hq.ext KA) (hr.ext KA) (hb.ext KA) (ho.ext KA) hop hoq hor hob hpq hl).mono λe w' h=> ?_;rcases h with⟨v,rfl,P,R,a1,c1,a2,c2,h1,-,h2,h3,h4,h5,h6,h7,h8,h9⟩|⟨ch,rfl,e,h1,rfl,h2⟩
  ·rw[hsz]at h7 h8;exact .inl ⟨_,rfl,P,R,a1,c1,a2,c2,h1,h2,h3,h4,h5,h6,h7,h8,h9⟩
  exact .inr ⟨_,rfl,e,rfl,h1,h2⟩
 ·rintro w' ⟨P,R,a1,c1,a2,c2,h1,h2,h3,h4,h5,h6,h7,h8,h9⟩;exact hnew.keep h9 hnf
 ·rintro e w' ⟨h1,h9⟩;exact hnew.keep h9 hnf
 ·rintro w' w2 ⟨P,R,a1,c1,a2,c2,h1,h2,h3,h4,h5,h6,h7,h8,h9⟩ k;refine⟨_,rfl,.inl ⟨P,R,a1,c1,a2,c2,h1,rfl,h2.keep k (by simp only[one];omega),h3.kO k (λx hx=>by have:=h7 x hx;simp only[one];omega),h4.keep k (by simp only[one];omega),h5.kO k (λx hx=>by have:=h8 x hx;simp only[one];omega),h6,λx hx=>by have:=h7 x hx;omega,λx hx=>by have:=h8 x hx;omega,?_⟩⟩;exact((KA.to (S:=FT q r b)).trans h9 λ_ _ e=>e).trans k λx hx e=>absurd hx (by simp only[one]at e;omega)
 rintro e w' w2 ⟨h1,h9⟩ k;refine⟨_,rfl,.inr ⟨e,h1,rfl,?_⟩⟩;exact((KA.to (S:=FT q r b)).trans h9 λ_ _ e=>e).trans k λx hx e=>absurd hx (by simp only[one]at e;omega)
def UE (a:Option Addr)(xs:List UInt8)(c:Nat)(w:World)(hs:Ax w a xs)(hl:xs.length<=1073741824):
  Calls prog 225 #[.slice a xs.length c] w (AU (λv w'=>(∃P R a1 c1 a2 c2,C9 xs= .ok (P,R)/\v= .tuple #[.slice a1 P.length c1,.slice a2 R.length c2,.int .i64 0]/\Af w' 5 a1 c1 P/\Af w' 5 a2 c2 R/\(∀x,own a1 x->¬own a2 x)/\(∀x,own a1 x->w.heap.size<=x)/\(∀x,own a2 x->w.heap.size<=x)/\As w w')\/(∃e,C9 xs= .error e/\v= .tuple #[.slice none 0 0,.slice none 0 0,.int .i64 e]/\As w w'))):=by
 refine kD (n:=18) func225 ?_;refine kS (Rw _ _ _ _ hs Zo) ?_;rintro _ aK ⟨ag,aL,aM,rfl,a0,a3,aq,ar,aN,au⟩;have:w.heap.size<=ag:=Aaa (Aac _) ar;have K0:=(au:As w _);refine kR ?_;intro ah aO a9 a4 ac;have aP:=Ak a0.lt a9;have ai:=An a3.oL a9;have:=Aaa K0.size a9;clear a9;refine jR<|jS a4 ?_;intro aQ a4 ad;refine kP ?_;intro aj aR a6 aa ab;replace a0:=(a0.ext ac).kp ad;have aS:=Ak a0.lt a6;have aT:=Ak a4.lt a6;replace a3:=(a3.ext ac).kO ad (Aa ai);have av:=An a3.oL a6;replace K0:=(K0.ext ac).n1 ad;have:=Aaa K0.size a6;clear a6;refine kR ?_;intro ak aU a5 aw a7;replace a0:=a0.ext ab;have aV:=Ak a0.lt a5;replace a4:=a4.ext ab;have aW:=Ak a4.lt a5;have aX:=Ak aa.lt a5;replace a3:=a3.ext ab;have ax:=An a3.oL a5;replace K0:=K0.ext ab;have:=Aaa K0.size a5;clear a5;refine jG ?_;refine jV (Dm (a:=[]) (c:=[jp ah,jp aj,jp ak]) rfl rfl) ?_;replace a3:=a3.ext a7;replace a0:=a0.ext a7;replace a4:=a4.ext a7;replace aa:=aa.ext a7;refine kS (ja ah aj ak ag _ _ _ _ a4 aa aw a0 a3 ai av ax aq Zo Zo) ?_;replace K0:=K0.ext a7;have hTw:=K0;rintro _ wT hTry;rcases hTry with hTry|hTry
 ·obtain⟨ay,az,al,aA,am,aB,aC,rfl,an,ae,ao,af,aD,aE,aF,aG⟩:=hTry;have hTK:As w wT:=hTw.new aG (λx_ hx_=>by simp only[FT]at hx_;omega);replace K0:=hTK;have aH:∀x_,own al x_->w.heap.size<=x_:=λx_ h_=>Aaa hTw.size (aE x_ h_);have aI:∀x_,own am x_->w.heap.size<=x_:=λx_ h_=>Aaa hTw.size (aF x_ h_);refine kG ?_;refine Ai.drawR ?_;intro aY a8;replace an:=an.ext a8;replace ao:=ao.ext a8;refine jG ?_;refine Ai.ret3 (v:= .slice al ay.length aA) (x:= .slice am az.length aB) (y:= .int .i64 0) func225 rfl rfl rfl rfl ?_;replace ae:=ae.ext a8;replace af:=af.ext a8;replace K0:=K0.ext a8;exact⟨_,rfl,.inl ⟨_,_,_,_,_,_,aC,rfl,ae,af,aD,aH,aI,K0⟩⟩
 obtain⟨e,ap,rfl,aJ⟩:=hTry;have hTK:As w wT:=hTw.new aJ (λx_ hx_=>by simp only[FT]at hx_;omega);have hene:=OB ap;replace K0:=hTK;refine kK ?_ ?_
 ·intro hc14;refine jG ?_;refine Ai.ret3 (v:= .slice none 0 0) (x:= .slice none 0 0) (y:= .int .i64 e) func225 rfl rfl rfl rfl ?_;exact⟨_,rfl,.inr ⟨_,ap,rfl,K0⟩⟩
 intro hc14;exact absurd hc14 hene
end
section
attribute [local irreducible] crcN CV CP F6 Co leL C9
end
end Go.Proofs.YtjkaicjmfgekjaaGreatDoor
