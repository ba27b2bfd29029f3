/-
  Kc, Kd, Ke, Kf
-/
import Derived.Test.YtjkaicjmfgekjaaGreatDoorPcCq
import Derived.Test.YtjkaicjmfgekjaaGreatDoorPcApp
import Derived.Test.YtjkaicjmfgekjaaGreatDoorPcCell
set_option linter.all false
set_option maxRecDepth 100000
set_option maxHeartbeats 4000000
namespace Go.Proofs.YtjkaicjmfgekjaaGreatDoor
open Go.Proofs.Tryz
attribute [local irreducible] RD RS AB RL RA RT CB Ai AD DP Cx BI By Ca B6 DJ Cf itemsN BZ AQ Bl BL Gr AK A2 At BW Ar A7 Aw
section
def AL (s:ByteArray):List UInt8:=Al s.size++s.data.toList
def A6 (d:Ah):List UInt8:=Al d.node.toNat++Al d.life.toNat++Al d.count.toNat
def Gk (l:List Ah):List UInt8:=Al l.length++l.flatMap A6
def EG (p:Nat):Nat->List UInt8
 |0=>[]
 |k+1=>EG p k++[UInt8.ofNat (p/2^(8*k))]
def AN (x:Aj):List UInt8:=AL x.item++Al x.dot.node.toNat++Al x.dot.life.toNat++Al x.dot.count.toNat++Al x.qty.toNat++EG x.price.toNat 8
def Lw (l:List Aj):List UInt8:=Al l.length++l.flatMap AN
def DG (ms:List Ab)(cl:List Ah):List UInt8:=Gk (ms.map Ab.d)++Gk cl
def Wt (d:Ah):Prop:=(0<=d.node/\d.node<4611686018427387904)/\(0<=d.life/\d.life<4611686018427387904)/\0<=d.count/\d.count<4611686018427387904
def CG {n:Int}(h0:0<=n)(h:n<4611686018427387904):(Al n.toNat).length<=9:=Bb Zo
def Lx {d:Ah}(h:Wt d):(A6 d).length<=27:=by
 have h1:=CG h.1.1 h.1.2;have h2:=CG h.2.1.1 h.2.1.2;have h3:=CG h.2.2.1 h.2.2.2;simp only[A6,Aab];omega
def IP (p:Nat):∀k,(EG p k).length=k
 |0=>rfl
 |k+1=>by rw[EG,Aab,IP p k];rfl
def Ek {α : Type} {f : α -> List UInt8} {m : Nat} : ∀ {l : List α}, (∀ x ∈ l, (f x).length <= m) -> (l.flatMap f).length <= m * l.length
  | [], _ => by simp
  | x :: l, h => by
    have h1 := h x Zs;have h2 := Ek (f := f) (l := l) λy hy => h y (by simp [hy])
    rw [Aa5, Aab, Aaj, Nat.mul_succ]; omega
def IQ {α:Type}{f:α->List UInt8}{l:List α}{i:Nat}{x:α}(h:l[i]? =some x):(l.take (i+1)).flatMap f=(l.take i).flatMap f++f x:=by
 obtain⟨hj,rfl⟩:=List.getElem?_eq_some_iff.1 h;rw[AaJ hj,Abq];simp
def VL {α β:Type}{f:α->β}{l:List α}{i:Nat}{x:α}(h:l[i]? =some x):(l.take (i+1)).map f=(l.take i).map f++[f x]:=by
 obtain⟨hj,rfl⟩:=List.getElem?_eq_some_iff.1 h;rw[AaJ hj,Aam];rfl
def Jr {α:Type}{l:List α}{i:Nat}{x:α}(h:l[i]? =some x):x∈l:=Aan h
def Ly {l:List Ah}(h:∀d∈l,Wt d)(hl:l.length<=1048576):(Gk l).length<=9+27*l.length:=by
 have h1:=Bb (n:=l.length) Zo;have h2:=Ek (f:=A6) (m:=27) λx hx=>Lx (h x hx)
 rw[Gk,Aab];omega
def VM (p:Nat):EG p 0=[]:=rfl
def Pr (p k:Nat):EG p (k+1)=EG p k++[UInt8.ofNat (p/2^(8*k))]:=rfl
def entN (x:Aj):Prop:=Wt x.dot/\(0<=x.qty/\x.qty<4611686018427387904)/\(0<=x.price/\x.price<18446744073709551616)/\x.item.size<=32
def H4 {x:Aj}(h:entN x):(AN x).length<=85:=by
 have h1:=CG h.1.1.1 h.1.1.2;have h2:=CG h.1.2.1.1 h.1.2.1.2;have h3:=CG h.1.2.2.1 h.1.2.2.2;have h4:=CG h.2.1.1 h.2.1.2;have h5:=Bb (n:=x.item.size) (by have:=h.2.2.2;omega);have h6:=h.2.2.2;have h7:x.item.data.toList.length=x.item.size:=by rw[AaA];rfl
 simp only[AN,AL,Aab,IP,h7];omega
def il.entN {ms:List Ab}{cl:List Ah}{pre:List Aj}{x:Aj}(h:il ms cl pre x)(hX:EO ms cl)(hp:0<=x.price/\x.price<18446744073709551616):entN x:=by
 have h1:=h.qty;have h2:=h.name;have h3:x.item.size<=32:=by
  rw[AK,Aao,decide_eq_true_eq]at h2;exact h2.1.2
 have h4:=hX.cov h.cov;unfold AD at h4;refine⟨⟨?_,?_,?_⟩,?_,hp,h3⟩<;>omega
def AD.nn {d:Ah}(h:AD d):Wt d:=by unfold AD at h;unfold Wt;omega
def HJ (a:Option Addr)(xs:List UInt8)(c:Nat)(n:Int)(w:World)(hs:Ax w a xs)(hl:xs.length<=1073741824)(h0:0<=n)(hn:n<4611686018427387904):Calls prog 122 #[.slice a xs.length c,.int .i64 n] w (AU λv w'=>∃a' c',v= .slice a' (xs++Al n.toNat).length c'/\Af w' 5 a' c' (xs++Al n.toNat)/\(∀b,own a' b->w.heap.size<=b)/\As w w'):=by
 have h:=SJ a xs c n.toNat w hs hl Zo;rwa[AaT h0]at h
attribute [local irreducible] A6 EG AL AN X
def Lz (a:Option Addr)(xs:List UInt8)(c:Nat)(s:ByteArray)(w:World)(hs:Ax w a xs)(hl:xs.length<=1048576)(hn:s.size<=1048576):
  Calls prog 88 #[.slice a xs.length c,.string s] w (AU (λv w'=>∃a' c',v= .slice a' (xs++AL s).length c'/\Af w' 5 a' c' (xs++AL s)/\(∀b,own a' b->w.heap.size<=b)/\As w w')):=by
 have hv9:=Bb (n:=s.size) Zo;have hD:(xs++Al s.size).length=xs.length+(Al s.size).length:=Aab;refine kD (n:=11) func88 ?_;refine jV (DT underlying9 rfl) ?_;refine kS (SJ a xs c s.size _ hs Zo Zo) ?_;rintro _ aa ⟨ab,ac,rfl,a5,a0,a6⟩;have a1:=Bg (Aac _) a0;clear a0;have K0:=(a6:As w _);refine jG ?_;refine jR<|AB.appendStr (xs:=xs++Al s.size) (str:=s) underlying98 underlying9 ty5 rfl rfl rfl a5 Zr ?_;intro a2 a7 ad a3 a8 a4;have a9:∀q_,own a2 q_->w.heap.size<=q_:=a4.ge a1 K0.size;clear a4;refine kL func88 ?_;have e_:(xs++Al s.size)++s.data.toList=xs++AL s:=by unfold AL;rw[Aar]
 rw[e_]at a3⊢;replace K0:=K0.new a8 a1;exact⟨_,rfl,a2,a7,rfl,a3,a9,K0⟩
def R6 (am:Option Addr)(ds:List Ah)(cm b:Nat)(a0:Option Addr)(xs:List UInt8)(c0:Nat)(w:World)(hm:Ax w am ds)(hb:AC w b [.slice a0 xs.length c0] 98)(hs0:Ax w a0 xs)(hd0:∀q_,am=some q_->ds≠ []->¬(one b) q_.block)(hds:∀d∈ds,Wt d)(hdl:ds.length<=4096)(hl:xs.length<=1048576):
  Calls prog 211 #[.slice am ds.length cm,jp b] w (AU (λv w'=>∃a' c',v= .tuple #[]/\AC w' b [.slice a' (xs++Gk ds).length c'] 98/\Af w' 5 a' c' (xs++Gk ds)/\(∀q,own a' q->w.heap.size<=q)/\Ae (one b) w w')):=by
 have hv9:=Bb (n:=ds.length) Zo;have hD:(xs++Al ds.length).length=xs.length+(Al ds.length).length:=Aab;refine kD (n:=26) func211 ?_;refine kS (SJ a0 xs c0 ds.length _ hs0 Zo Zo) ?_;rintro _ aI ⟨ao,aJ,rfl,a4,a5,ah⟩;have ai:=Ay a5 hb.lt;have ap:∀q_,own ao q_->q_<w.heap.size->(one b) q_:=GY (Aac _) a5;have aq:=Bg (Aac _) a5;clear a5;have K0:=(ah:As w _).to (S:=(one b));replace hb:=hb.ext ah;refine jR<|jS hb ?_;intro aK hb aj;replace K0:=K0.tf aj rfl;refine jG ?_;replace a4:=a4.kO aj (Aa ai);refine Ai.loop (ι:=Nat) (λi ρ' w'=>∃a':Option Addr,∃c':Nat,Holds ρ' [(1,jp b),(9,.slice am ds.length cm),(10,.int .i64 ((ds.length:Nat):Int)),(11,.int .i64 ((i:Nat):Int))]/\Ae (one b) w w'/\(AC w' b [.slice a' ((xs++Al ds.length++(ds.take i).flatMap A6).length) c'] 98)/\(Af w' 5 a' c' (xs++Al ds.length++(ds.take i).flatMap A6))/\(¬own a' b)/\(∀q_,own a' q_->q_<w.heap.size->(one b) q_)/\(∀q_,own a' q_->w.heap.size<=q_)/\(i<=ds.length)) (λi=>ds.length-i) 0 ?_ ?_
 ·rw[show xs++Al ds.length++(ds.take 0).flatMap A6=xs++Al ds.length by simp];refine⟨_,_,⟨rfl,rfl,rfl,rfl,trivial⟩,K0,hb,a4,ai,ap,aq,?_⟩;omega
 clear hb a4;clear K0;rintro i aL aM ⟨a',c',ak,K0,hb,a2,ar,aN,au,hi⟩ ih1;obtain⟨ρ₀,rfl⟩:=ak.ex;clear ak;refine kK ?_ ?_
 ·intro hc12;have hfl:=Ek (f:=A6) (m:=27) (l:=ds.take i) λx hx=>Lx (hds x (Acg hx));have htl:(ds.take i).length<=i:=Aba ..;obtain⟨aO,aP,d,hd,av,a6⟩:=hm.eo i;have hc_22_lt:=a6.lt;replace a6:=a6.keep K0 (hd0 _ av (HR hd));refine kP ?_;intro aQ aR a3 a1 ac;have aS:=Ak hb.lt a3;have aT:=Ak a6.lt a3;have aw:=An a2.oL a3;have:=Aaa K0.size a3;clear a3;refine jR<|jS a1 ?_;intro aU a1 ad;replace K0:=K0.ext ac;replace K0:=K0.n1 ad;refine jG ?_;have hnd:=hds d (Jr hd);obtain⟨⟨hn1,hn2⟩,⟨hn3,hn4⟩,hn5,hn6⟩:=hds d (Jr hd);have hz1:=CG hnd.1.1 hnd.1.2;have hz2:=CG hnd.2.1.1 hnd.2.1.2;refine Ai.drawS [10] [1000,1,1002,4,1005,7,1008,2003,2006,2009,2010] ?_;intro aV a7;replace hb:=((hb.ext ac).kp ad).ext a7;replace a1:=a1.ext a7;refine kF (jb hb (jb a1 Jn)) ?_;replace a2:=((a2.ext ac).kO ad (Aa aw)).ext a7;refine jU rfl<|jC (HJ a' (xs++Al ds.length++(ds.take i).flatMap A6) c' d.node _ a2.sl (by first|omega|(simp only[Aab,Aaj,Aas];omega)) Zo Zo) ?_;rintro _ aW ⟨ax,ay,rfl,az,aA,a8⟩;clear aA;replace hb:=hb.ext a8;replace a1:=a1.ext a8;refine jG ?_;refine jU rfl<|jC (HJ ax ((xs++Al ds.length++(ds.take i).flatMap A6)++Al d.node.toNat) ay d.life _ az.sl (by first|omega|(simp only[Aab,Aaj,Aas];omega)) Zo Zo) ?_;rintro _ aX ⟨aB,aC,rfl,aD,aE,a9⟩;clear aE;replace hb:=hb.ext a9;replace a1:=a1.ext a9;refine jG ?_;refine jU rfl<|jC (HJ aB (((xs++Al ds.length++(ds.take i).flatMap A6)++Al d.node.toNat)++Al d.life.toNat) aC d.count _ aD.sl (by first|omega|(simp only[Aab,Aaj,Aas];omega)) Zo Zo) ?_;rintro _ aY ⟨ae,al,rfl,af,aa,ab⟩;have an:=Ay aa hb.lt;replace K0:=((K0.ext a7).ext a8).ext a9;have aF:∀q_,own ae q_->q_<w.heap.size->(one b) q_:=GY K0.size aa;have aG:=Bg K0.size aa;clear aa;replace hb:=hb.ext ab;replace a1:=a1.ext ab;refine jG ?_;refine jU rfl<|AB.store (v:= .slice ae (((((xs++Al ds.length++(ds.take i).flatMap A6)++Al d.node.toNat)++Al d.life.toNat)++Al d.count.toNat).length) al) ty98 rfl rfl rfl Zv hb Zs ?_;intro aH hb_ ag;have hb':AC aH b [.slice ae (((((xs++Al ds.length++(ds.take i).flatMap A6)++Al d.node.toNat)++Al d.life.toNat)++Al d.count.toNat).length) al] 98:=hb_;clear hb_;replace K0:=K0.ext ab;replace K0:=K0.tf ag rfl;replace hb:=hb';clear hb';refine jG ?_;refine kC i ?_;have e:xs++Al ds.length++(ds.take (i+1)).flatMap A6=(((xs++Al ds.length++(ds.take i).flatMap A6)++Al d.node.toNat)++Al d.life.toNat)++Al d.count.toNat:=by rw[IQ hd,A6];simp only[Aar]
  refine ih1 (i+1) _ _ ?_ Zo;rw[e];replace a2:=(((a2.ext a8).ext a9).ext ab).kO ag (Aa ar);replace af:=af.kO ag (Aa an);refine⟨_,_,⟨rfl,rfl,rfl,rfl,trivial⟩,K0,hb,af,an,aF,aG,?_⟩;omega
 intro hc12;refine jG ?_;refine Ai.fin0 func211 rfl ?_;have hie:i=ds.length:=by omega
 subst hie;have e_:xs++Al ds.length++(ds.take ds.length).flatMap A6=xs++Gk ds:=by rw[Aap,Gk,Aar]
 rw[e_]at a2 hb;exact⟨_,rfl,a',c',rfl,hb,a2,au,K0⟩
def ir (a0:Option Addr)(xs:List UInt8)(c0:Nat)(am:Option Addr)(ms:List Ab)(cm:Nat)(ac:Option Addr)(cl:List Ah)(cc:Nat)(w:World)(hs0:Ax w a0 xs)(hs:Ax w am ms)(ht:Ax w ac cl)(hX:EO ms cl)(hl:xs.length<=65536):
  Calls prog 153 #[.slice a0 xs.length c0,.agg #[.slice am ms.length cm,.slice ac cl.length cc]] w (AU (λv w'=>∃a' c',v= .tuple #[.slice a' (xs++DG ms cl).length c',.int .i64 0]/\Af w' 5 a' c' (xs++DG ms cl)/\(∀q,own a' q->w.heap.size<=q)/\As w w')):=by
 have hm64:=hX.1;have hc64:=hX.2.1;have hcan:=Gd hX;have hmm:∀d∈ms.map Ab.d,Wt d:=λd hd=>by obtain⟨m,hm,rfl⟩:=List.mem_map.1 hd;exact(hX.may hm).nn
 have hmL:=Ly hmm (by rw[Aad];omega);have hml:(ms.map Ab.d).length=ms.length:=Aad ..;have hD:(xs++Gk (ms.map Ab.d)).length=xs.length+(Gk (ms.map Ab.d)).length:=Aab;refine kD (n:=35) func153 ?_;refine kQ ?_;intro a2 aS aj a1 aB;have:w.heap.size<=a2:=aj;clear aj;have K0:=(aB:As w _);refine kQ ?_;intro a6 aT ae a3 ak;have aU:=Ak a1.lt ae;have:=Aaa K0.size ae;clear ae;refine jG ?_;replace K0:=K0.ext ak;refine kS (U8 am ms cm ac cl cc _ (hs.ext K0) (ht.ext K0) Zo Zo) ?_;rintro _ aC ⟨rfl,af⟩;refine jG ?_;replace a1:=(a1.ext ak).ext af;replace a3:=a3.ext af;replace K0:=K0.ext af;refine jF ?_ ?_
 ·intro hc12;rw[hcan]at hc12;cases hc12
 intro hc12;refine jG ?_;refine kE (Dm (a:=[]) (c:=[jp a2]) rfl rfl) ?_;refine Ai.loop (ι:=Nat) (λi ρ' w'=>∃a':Option Addr,∃c':Nat,Holds ρ' [(2,jp a2),(3,jp a6),(6,.func (.func 211) #[] #[jp a2]),(7,.slice a' (((ms.take i).map Ab.d).length) c'),(15,.slice am ms.length cm),(16,.int .i64 ((ms.length:Nat):Int)),(17,.int .i64 ((i:Nat):Int))]/\As w w'/\(AC w' a2 [.slice a0 xs.length c0] 98)/\(AC w' a6 [.slice am ms.length cm,.slice ac cl.length cc] 31)/\(Af w' 73 a' c' ((ms.take i).map Ab.d))/\(¬own a' a2)/\(¬own a' a6)/\(∀q_,own a' q_->w.heap.size<=q_)/\(i<=ms.length)) (λi=>ms.length-i) 0 ?_ ?_
 ·rw[show(ms.take 0).map Ab.d=[]by rfl];have aD:=Af.nil (α:=Ah) aC 73;refine⟨_,_,⟨rfl,rfl,rfl,rfl,rfl,rfl,rfl,trivial⟩,K0,a1,a3,aD,(Ad a2),(Ad a6),(λq_ h1=>absurd h1 (Ad q_)),?_⟩;omega
 clear a1 a3;clear K0;rintro i aV aW ⟨a',c',al,K0,a1,a3,a4,ag,an,ao,hi⟩ ih1;obtain⟨ρ₀,rfl⟩:=al.ex;clear al;refine kK ?_ ?_
 ·intro hc18;obtain⟨aX,aY,m,hm,aZ,a7⟩:=hs.eo i;have hc_25_lt:=a7.lt;replace a7:=a7.ext K0;refine kP ?_;intro b0 b1 a5 ap a8;have b2:=Ak a1.lt a5;have b3:=Ak a3.lt a5;have b4:=Ak a7.lt a5;have aE:=An a4.oL a5;have:=Aaa K0.size a5;clear a5;refine jR<|jS ap ?_;intro b5 ap a9;have htl:((ms.take i).map Ab.d).length<=i:=by rw[Aad];exact Aba ..
  refine jG ?_;refine kS (H0 m _) ?_;rintro _ b6 ⟨rfl,aa⟩;refine jR<|AB.buildSlice ([(Ab.d m)]:List Ah) underlying29 ty73 rfl rfl Ze ?_;intro b7 b8 aF aG ab;clear aF;replace a4:=(((a4.ext a8).kO a9 (Aa aE)).ext aa).ext ab;refine jR<|AB.append (xs:=(ms.take i).map Ab.d) (ys:=([(Ab.d m)]:List Ah)) underlying29 ty73 rfl rfl rfl a4 aG.sl Zr Zd ?_;intro ah b9 ba aH ai ad aI;replace a1:=(((a1.ext a8).kp a9).ext aa).ext ab;have aJ:¬own ah a2:=ad.not ag a1.lt;replace a3:=(((a3.ext a8).kp a9).ext aa).ext ab;have aK:¬own ah a6:=ad.not an a3.lt;replace K0:=(((K0.ext a8).n1 a9).ext aa).ext ab;have aL:∀q_,own ah q_->w.heap.size<=q_:=ad.ge ao K0.size;clear ad;clear aI;refine jG ?_;refine kC i ?_;have e:=VL (f:=Ab.d) hm;refine ih1 (i+1) _ _ ?_ Zo;rw[e];replace a1:=a1.keep ai ag;replace a3:=a3.keep ai an;replace K0:=K0.new ai ao;refine⟨_,_,⟨rfl,rfl,rfl,rfl,rfl,rfl,rfl,trivial⟩,K0,a1,a3,aH,aJ,aK,aL,?_⟩
  omega
 intro hc18;have hie:i=ms.length:=by omega
 subst hie;rw[Aap]at a4⊢;refine jG ?_;refine jR<|AB.callV (vals:=[.slice a' ((ms.map Ab.d).length) c',jp a2]) en211.h rfl rfl (R6 a' (ms.map Ab.d) c' a2 a0 xs c0 _ a4.sl a1 (hs0.ext K0) (λq_ e_ _ h_=>by simp only[one]at h_;exact ag ⟨q_,e_,by first|exact h_|exact h_.symm⟩) hmm Zo (by first|omega|(simp only[Aab];omega))) ?_;rintro _ aM ⟨aq,ar,rfl,au,aN,aO,av⟩;clear aO;replace a1:AC aM a2 [.slice aq ((xs++Gk (ms.map Ab.d)).length) ar] 98:=au;clear au;replace a3:=a3.kp av;refine jG ?_;replace K0:=K0.n1 av;refine jR<|AB.callV (vals:=[.slice ac cl.length cc,jp a2]) en211.h rfl rfl (R6 ac cl cc a2 aq (xs++Gk (ms.map Ab.d)) ar _ (ht.ext K0) a1 aN.sl (λq_ e_ n_ h_=>absurd (EZ ht n_ ⟨q_,e_,rfl⟩) (by simp only[one]at h_;omega)) (λd hd=>(hX.mayC hd).nn) Zo (by first|omega|(simp only[Aab];omega))) ?_;rintro _ aP ⟨aw,ax,rfl,ay,az,aA,aQ⟩;have aR:=Bg K0.size aA;clear aA;replace a1:AC aP a2 [.slice aw (((xs++Gk (ms.map Ab.d))++Gk cl).length) ax] 98:=ay;clear ay;refine kM func153 ?_;have e_:xs++Gk (ms.map Ab.d)++Gk cl=xs++DG ms cl:=by rw[DG,Aar]
 rw[e_]at az⊢;replace K0:=K0.n1 aQ;exact⟨_,rfl,aw,ax,rfl,az,aR,K0⟩
def ZA (am:Option Addr)(ms:List Ab)(cm:Nat)(ac:Option Addr)(cl:List Ah)(cc:Nat)(ae:Option Addr)(es:List Aj)(ce:Nat)(w:World)(hcap:es.length<=ce)(hs:Ax w am ms)(ht:Ax w ac cl)(hse:Ax w ae es)(hl:ms.length<=4294967295)(hl2:cl.length<=4294967295)(hl3:es.length<=4294967295)(hb:Ez es)(hcan0:Bl ms cl es=0):Calls prog 35 #[.agg #[.slice ae es.length ce,.slice am ms.length cm,.slice ac cl.length cc]] w (AU λv w'=>v= .int .i64 0/\As w w'):=by
 have h:=R1 am ms cm ac cl cc ae es ce w hcap hs ht hse hl hl2 hl3 hb;rwa[hcan0]at h
def iu (am:Option Addr)(ms:List Ab)(cm:Nat)(ac:Option Addr)(cl:List Ah)(cc:Nat)(ae:Option Addr)(es:List Aj)(ce:Nat)(w:World)(hcap:es.length<=ce)(hs:Ax w am ms)(ht:Ax w ac cl)(hse:Ax w ae es)(hl:ms.length<=4294967295)(hl2:cl.length<=4294967295)(hl3:es.length<=4294967295)(hb:Ez es)(hcan0:Bl ms cl es=0):
  Calls prog 87 #[.agg #[.slice ae es.length ce,.slice am ms.length cm,.slice ac cl.length cc]] w (AU (λv w'=>∃a' c',v= .tuple #[.slice a' (Lw es++DG ms cl).length c',.int .i64 0]/\Af w' 5 a' c' (Lw es++DG ms cl)/\(∀q,own a' q->w.heap.size<=q)/\As w w')):=by
 have hC:=Ey hcan0;have h64:=hC.len;have hv9:=Bb (n:=es.length) Zo;have hen:∀x∈es,entN x:=λx hx=>by
  obtain⟨j,hj⟩:=Abm hx;exact(hC.ent j x hj).entN hC.ctx (hb x hx).1
 refine kD (n:=72) func87 ?_;refine kQ ?_;intro ag bQ aD a0 aZ;have:w.heap.size<=ag:=aD;clear aD;have K0:=(aZ:As w _);refine jG ?_;refine kS (ZA am ms cm ac cl cc ae es ce _ hcap (hs.ext K0) (ht.ext K0) (hse.ext K0) Zo Zo Zo hb hcan0) ?_;rintro _ bR ⟨rfl,aE⟩;refine jG ?_;refine Ai.condF rfl ?_;replace a0:=a0.ext aE;refine jG ?_;refine kS (SJ none ([]:List UInt8) 0 es.length _ (Ax.nil _ _) (Aal _) Zo) ?_;rintro _ bS ⟨bT,bU,rfl,aF,ax,aG⟩;have b0:=Ay ax a0.lt;replace K0:=K0.ext aE;have b1:=Bg K0.size ax;clear ax;replace a0:=a0.ext aG;refine jG ?_;replace K0:=K0.ext aG;refine Ai.loop (ι:=Nat) (λi ρ' w'=>∃a':Option Addr,∃c':Nat,Holds ρ' [(1,jp ag),(5,.slice a' ((([]:List UInt8)++Al es.length++(es.take i).flatMap AN).length) c'),(21,.slice ae es.length ce),(22,.int .i64 ((es.length:Nat):Int)),(23,.int .i64 ((i:Nat):Int))]/\As w w'/\(AC w' ag [.slice ae es.length ce,.slice am ms.length cm,.slice ac cl.length cc] 33)/\(Af w' 5 a' c' (([]:List UInt8)++Al es.length++(es.take i).flatMap AN))/\(¬own a' ag)/\(∀q_,own a' q_->w.heap.size<=q_)/\(i<=es.length)) (λi=>es.length-i) 0 ?_ ?_
 ·rw[show([]:List UInt8)++Al es.length++(es.take 0).flatMap AN=([]:List UInt8)++Al es.length by simp];refine⟨_,_,⟨rfl,rfl,rfl,rfl,rfl,trivial⟩,K0,a0,aF,b0,b1,?_⟩;omega
 clear a0 aF;clear K0;rintro i bV bW ⟨a',c',aH,K0,a0,a2,bX,bY,hi⟩ ih1;obtain⟨ρ₀,rfl⟩:=aH.ex;clear aH;refine kK ?_ ?_
 ·intro hc24;obtain⟨bZ,c0,x,hx,c1,an⟩:=hse.eo i;have hc_25_lt:=an.lt;replace an:=an.ext K0;refine kP ?_;intro ao c2 ak a3 ay;have c3:=Ak a0.lt ak;have c4:=Ak an.lt ak;have b2:=An a2.oL ak;have:=Aaa K0.size ak;clear ak;refine jR<|jS a3 ?_;intro c5 a3 az;obtain⟨⟨⟨hn1,hn2⟩,⟨hn3,hn4⟩,hn5,hn6⟩,⟨hq1,hq2⟩,⟨hp1,hp2⟩,hi32⟩:=hen x (Jr hx);have hz1:=CG hn1 hn2;have hz2:=CG hn3 hn4;have hz3:=CG hn5 hn6;have hz4:=CG hq1 hq2;have hfl:=Ek (f:=AN) (m:=85) (l:=es.take i) λy hy=>H4 (hen y (Acg hy));have htl:(es.take i).length<=i:=Aba ..;replace a0:=(a0.ext ay).kp az;replace a2:=(a2.ext ay).kO az (Aa b2);replace K0:=(K0.ext ay).n1 az
  have hti:(AL x.item).length<=41:=by
   have h7:x.item.data.toList.length=x.item.size:=by rw[AaA];rfl
   have h5:=Bb (n:=x.item.size) Zo;simp only[AL,Aab,h7];omega
  refine jG ?_;refine kS (Lz a' (([]:List UInt8)++Al es.length++(es.take i).flatMap AN) c' x.item _ a2.sl (by first|omega|(simp only[Aab,Aaj,Aas];omega)) Zo) ?_;rintro _ c6 ⟨ap,aI,rfl,a4,b3,aq⟩;clear b3;replace a3:=a3.ext aq;refine jG ?_;refine jR<|AB.buildSlice ([x.dot.node,x.dot.life,x.dot.count,x.qty]:List Int) underlying185 ty3 rfl rfl Ze ?_;intro aA c7 b4 a1 al;clear b4;refine kE (AA (c:=4) (CM underlying185 rfl) rfl) ?_;refine Ai.unloop ?_;refine kJ ?_;refine Et ?_;obtain⟨c8,c9,b5,b6,b7,b8⟩:=a1.sl.el (i:=0) Zs;obtain rfl:x.dot.node=b5:=Option.some.inj b6;refine jV (AY underlying185 ty3 rfl rfl b7 Zs) ?_;refine kE (B9 (v:= .int .i64 x.dot.node) (y:=x.dot.node) ty3 rfl b8 rfl) ?_;replace a4:=a4.ext al;refine kS (HJ ap ((([]:List UInt8)++Al es.length++(es.take i).flatMap AN)++AL x.item) aI x.dot.node _ a4.sl (by first|omega|(simp only[Aab,Aaj,Aas];omega)) Zo Zo) ?_;rintro _ ca ⟨ar,aJ,rfl,a5,b9,aj⟩;clear b9;refine jG ?_;refine kE (AA (c:=1) (Av rfl rfl Zd Zd) Zd) ?_;refine Ai.inLoop ?_;refine kJ ?_;refine Et ?_;replace a1:=a1.ext aj;obtain⟨cb,cd,ba,bb,bc,be⟩:=a1.sl.el (i:=1) Zs;obtain rfl:x.dot.life=ba:=Option.some.inj bb;refine jV (AY underlying185 ty3 rfl rfl bc Zs) ?_;refine kE (B9 (v:= .int .i64 x.dot.life) (y:=x.dot.life) ty3 rfl be rfl) ?_;refine jR<|jC (HJ ar (((([]:List UInt8)++Al es.length++(es.take i).flatMap AN)++AL x.item)++Al x.dot.node.toNat) aJ x.dot.life _ a5.sl (by first|omega|(simp only[Aab,Aaj,Aas];omega)) Zo Zo) ?_;rintro _ cf ⟨au,aK,rfl,a6,bg,ai⟩;clear bg;refine jG ?_;refine kE (AA (c:=2) (Av rfl rfl Zd Zd) Zd) ?_;refine Ai.inLoop ?_;refine kJ ?_;refine Et ?_;replace a1:=a1.ext ai;obtain⟨cg,ch,bh,bi,bj,bk⟩:=a1.sl.el (i:=2) Zs;obtain rfl:x.dot.count=bh:=Option.some.inj bi;refine jV (AY underlying185 ty3 rfl rfl bj Zs) ?_;refine kE (B9 (v:= .int .i64 x.dot.count) (y:=x.dot.count) ty3 rfl bk rfl) ?_;refine jR<|jC (HJ au ((((([]:List UInt8)++Al es.length++(es.take i).flatMap AN)++AL x.item)++Al x.dot.node.toNat)++Al x.dot.life.toNat) aK x.dot.count _ a6.sl (by first|omega|(simp only[Aab,Aaj,Aas];omega)) Zo Zo) ?_;rintro _ ci ⟨av,aL,rfl,a7,bl,ah⟩;clear bl;refine jG ?_;refine kE (AA (c:=3) (Av rfl rfl Zd Zd) Zd) ?_;refine Ai.inLoop ?_;refine kJ ?_;refine Et ?_;replace a1:=a1.ext ah;obtain⟨cj,ck,bm,bn,bo,bp⟩:=a1.sl.el (i:=3) Zs;obtain rfl:x.qty=bm:=Option.some.inj bn;refine jV (AY underlying185 ty3 rfl rfl bo Zs) ?_;refine kE (B9 (v:= .int .i64 x.qty) (y:=x.qty) ty3 rfl bp rfl) ?_;refine jR<|jC (HJ av (((((([]:List UInt8)++Al es.length++(es.take i).flatMap AN)++AL x.item)++Al x.dot.node.toNat)++Al x.dot.life.toNat)++Al x.dot.count.toNat) aL x.qty _ a7.sl (by first|omega|(simp only[Aab,Aaj,Aas];omega)) Zo Zo) ?_;rintro _ cn ⟨co,cp,rfl,aM,a8,ab⟩;replace a0:=((((a0.ext aq).ext al).ext aj).ext ai).ext ah;have bq:=Ay a8 a0.lt;replace a2:=((((a2.ext aq).ext al).ext aj).ext ai).ext ah;have bs:=Ag a8 a2.oL;replace a3:=(((a3.ext al).ext aj).ext ai).ext ah
  have bt:=Ay a8 a3.lt;replace a4:=((a4.ext aj).ext ai).ext ah;have bu:=Ag a8 a4.oL;have bv:=Ag a8 a1.oL;replace a5:=(a5.ext ai).ext ah;have bw:=Ag a8 a5.oL;replace a6:=a6.ext ah;have bx:=Ag a8 a6.oL;have bz:=Ag a8 a7.oL;replace K0:=((((K0.ext aq).ext al).ext aj).ext ai).ext ah;have bA:=Bg K0.size a8;clear a8;refine jG ?_;refine kE (AA (c:=4) (Av rfl rfl Zd Zd) Zd) ?_;refine Ai.inLoop ?_;refine kG ?_;replace a0:=a0.ext ab;replace a2:=a2.ext ab;replace a3:=a3.ext ab;replace a4:=a4.ext ab;replace a1:=a1.ext ab;replace a5:=a5.ext ab;replace a6:=a6.ext ab;replace a7:=a7.ext ab;replace K0:=K0.ext ab;refine Ai.loop (ι:=Nat) (λk ρ' w'=>∃a'':Option Addr,∃c'':Nat,Holds ρ' [(1,jp ag),(5,.slice a'' ((((((((([]:List UInt8)++Al es.length++(es.take i).flatMap AN)++AL x.item)++Al x.dot.node.toNat)++Al x.dot.life.toNat)++Al x.dot.count.toNat)++Al x.qty.toNat)++EG x.price.toNat k).length) c''),(7,jp ao),(21,.slice ae es.length ce),(22,.int .i64 ((es.length:Nat):Int)),(23,.int .i64 ((i:Nat):Int)),(24,.bool (decide (((i:Nat):Int)<((es.length:Nat):Int)))),(52,.int .i64 ((k:Nat):Int))]/\As w w'/\(AC w' ag [.slice ae es.length ce,.slice am ms.length cm,.slice ac cl.length cc] 33)/\(AC w' ao [.string x.item,.int .i64 x.dot.node,.int .i64 x.dot.life,.int .i64 x.dot.count,.int .i64 x.qty,.int .u64 x.price] 76)/\(Af w' 5 a' c' (([]:List UInt8)++Al es.length++(es.take i).flatMap AN))/\(Af w' 5 ap aI ((([]:List UInt8)++Al es.length++(es.take i).flatMap AN)++AL x.item))/\(Af w' 3 (some ⟨aA,0,none⟩) (([x.dot.node,x.dot.life,x.dot.count,x.qty]:List Int).length) ([x.dot.node,x.dot.life,x.dot.count,x.qty]:List Int))/\(Af w' 5 ar aJ (((([]:List UInt8)++Al es.length++(es.take i).flatMap AN)++AL x.item)++Al x.dot.node.toNat))/\(Af w' 5 au aK ((((([]:List UInt8)++Al es.length++(es.take i).flatMap AN)++AL x.item)++Al x.dot.node.toNat)++Al x.dot.life.toNat))/\(Af w' 5 av aL (((((([]:List UInt8)++Al es.length++(es.take i).flatMap AN)++AL x.item)++Al x.dot.node.toNat)++Al x.dot.life.toNat)++Al x.dot.count.toNat))/\(Af w' 5 a'' c'' (((((((([]:List UInt8)++Al es.length++(es.take i).flatMap AN)++AL x.item)++Al x.dot.node.toNat)++Al x.dot.life.toNat)++Al x.dot.count.toNat)++Al x.qty.toNat)++EG x.price.toNat k))/\(¬own a'' ag)/\(¬own a'' ao)/\(∀q_,own a'' q_->¬own a' q_)/\(∀q_,own a'' q_->¬own ap q_)/\(∀q_,own a'' q_->¬own (some ⟨aA,0,none⟩) q_)/\(∀q_,own a'' q_->¬own ar q_)/\(∀q_,own a'' q_->¬own au q_)/\(∀q_,own a'' q_->¬own av q_)/\(∀q_,own a'' q_->w.heap.size<=q_)/\(k<=8)) (λk=>8-k) 0 ?_ ?_
  ·rw[show((((((([]:List UInt8)++Al es.length++(es.take i).flatMap AN)++AL x.item)++Al x.dot.node.toNat)++Al x.dot.life.toNat)++Al x.dot.count.toNat)++Al x.qty.toNat)++EG x.price.toNat 0=(((((([]:List UInt8)++Al es.length++(es.take i).flatMap AN)++AL x.item)++Al x.dot.node.toNat)++Al x.dot.life.toNat)++Al x.dot.count.toNat)++Al x.qty.toNat by rw[VM,Aax]];refine⟨_,_,⟨rfl,rfl,rfl,rfl,rfl,rfl,rfl,rfl,trivial⟩,K0,a0,a3,a2,a4,a1,a5,a6,a7,aM,bq,bt,bs,bu,bv,bw,bx,bz,bA,?_⟩;omega
  clear a0 a2 a3 a4 a1 a5 a6 a7 aM;clear K0;rintro k cq cr ⟨a'',c'',aN,K0,a0,a3,a2,a4,a1,a5,a6,a7,aw,aB,aO,aP,aQ,aR,aS,aT,aU,aC,hk⟩ ih3;obtain⟨ρ₀,rfl⟩:=aN.ex;clear aN;refine kK ?_ ?_
  ·intro hc53;have hll:=IP x.price.toNat k;refine Ii ?_;refine kE (AA (c:=((x.price.toNat:Nat):Int)) (HM ty74 rfl rfl (a3.cl.field (i:=5) rfl)) Zo) ?_;refine jV (AA (c:=((8*k:Nat):Int)) (Q7 rfl rfl Zo Zo) rfl) ?_;refine jV (Ud (kd:= .u64) (a:=x.price.toNat) (b:=8*k) rfl rfl (by show 8*k<=64;omega)) ?_;refine jV (ES (a:=x.price.toNat/2^(8*k)) rfl ⟨_,underlying74⟩ underlying5) ?_;refine jR<|AB.buildSlice ([UInt8.ofNat (x.price.toNat/2^(8*k))]:List UInt8) underlying98 ty5 rfl rfl Ze ?_;intro cs ct bB bC a9;clear bB;replace aw:=aw.ext a9;refine jR<|AB.append (xs:=((((((([]:List UInt8)++Al es.length++(es.take i).flatMap AN)++AL x.item)++Al x.dot.node.toNat)++Al x.dot.life.toNat)++Al x.dot.count.toNat)++Al x.qty.toNat)++EG x.price.toNat k) (ys:=([UInt8.ofNat (x.price.toNat/2^(8*k))]:List UInt8)) underlying98 ty5 rfl rfl rfl aw bC.sl Zr Zd ?_;intro ad cu cw bD af aa bE;replace a0:=a0.ext a9;have bF:¬own ad ag:=aa.not aB a0.lt;replace a3:=a3.ext a9;have bG:¬own ad ao:=aa.not aO a3.lt;replace a2:=a2.ext a9;have bH:∀q_,own ad q_->¬own a' q_:=aa.apart aP a2.oL;replace a4:=a4.ext a9;have bI:∀q_,own ad q_->¬own ap q_:=aa.apart aQ a4.oL;replace a1:=a1.ext a9;have bJ:∀q_,own ad q_->¬own (some ⟨aA,0,none⟩) q_:=aa.apart aR a1.oL;replace a5:=a5.ext a9;have bK:∀q_,own ad q_->¬own ar q_:=aa.apart aS a5.oL;replace a6:=a6.ext a9;have bL:∀q_,own ad q_->¬own au q_:=aa.apart aT a6.oL;replace a7:=a7.ext a9;have bM:∀q_,own ad q_->¬own av q_:=aa.apart aU a7.oL;replace K0:=K0.ext a9;have bN:∀q_,own ad q_->w.heap.size<=q_:=aa.ge aC K0.size;clear aa;clear bE;refine jG ?_;refine kC k ?_;have e:((((((([]:List UInt8)++Al es.length++(es.take i).flatMap AN)++AL x.item)++Al x.dot.node.toNat)++Al x.dot.life.toNat)++Al x.dot.count.toNat)++Al x.qty.toNat)++EG x.price.toNat (k+1)=(((((((([]:List UInt8)++Al es.length++(es.take i).flatMap AN)++AL x.item)++Al x.dot.node.toNat)++Al x.dot.life.toNat)++Al x.dot.count.toNat)++Al x.qty.toNat)++EG x.price.toNat k)++[UInt8.ofNat (x.price.toNat/2^(8*k))]:=by rw[Pr];simp only[Aar]
   refine ih3 (k+1) _ _ ?_ Zo;rw[e];replace a0:=a0.keep af aB;replace a3:=a3.keep af aO;replace a2:=a2.kO af (Zf aP);replace a4:=a4.kO af (Zf aQ);replace a1:=a1.kO af (Zf aR);replace a5:=a5.kO af (Zf aS);replace a6:=a6.kO af (Zf aT);replace a7:=a7.kO af (Zf aU);replace K0:=K0.new af aC;refine⟨_,_,⟨rfl,rfl,rfl,rfl,rfl,rfl,rfl,rfl,trivial⟩,K0,a0,a3,a2,a4,a1,a5,a6,a7,bD,bF,bG,bH,bI,bJ,bK,bL,bM,bN,?_⟩;omega
  intro hc53;refine jG ?_;refine kC i ?_;have hk8:k=8:=by omega
  subst hk8;have e:([]:List UInt8)++Al es.length++(es.take (i+1)).flatMap AN=((((((([]:List UInt8)++Al es.length++(es.take i).flatMap AN)++AL x.item)++Al x.dot.node.toNat)++Al x.dot.life.toNat)++Al x.dot.count.toNat)++Al x.qty.toNat)++EG x.price.toNat 8:=by rw[IQ hx,AN];simp only[Aar]
  refine ih1 (i+1) _ _ ?_ Zo;rw[e];refine⟨_,_,⟨rfl,rfl,rfl,rfl,rfl,trivial⟩,K0,a0,aw,aB,aC,?_⟩;omega
 intro hc24;have hfl:=Ek (f:=AN) (m:=85) (l:=es.take i) λy hy=>H4 (hen y (Acg hy));have htl:(es.take i).length<=i:=Aba ..;refine jG ?_;refine kS (ir a' (([]:List UInt8)++Al es.length++(es.take i).flatMap AN) c' am ms cm ac cl cc _ a2.sl (hs.ext K0) (ht.ext K0) hC.ctx (by first|omega|(simp only[Aab,Aaj,Aas];omega))) ?_;rintro _ cx ⟨aV,aW,rfl,aX,aY,bO⟩;have bP:=Bg K0.size aY;clear aY;refine jG ?_;refine Ai.ret2 (v:= .slice aV (((([]:List UInt8)++Al es.length++(es.take i).flatMap AN)++DG ms cl).length) aW) (x:= .int .i64 0) func87 rfl rfl rfl ?_;have hie:i=es.length:=by omega
 subst hie;have e_:(([]:List UInt8)++Al es.length++(es.take es.length).flatMap AN)++DG ms cl=Lw es++DG ms cl:=by rw[Aap,Lw,Aay]
 rw[e_]at aX⊢;replace K0:=K0.ext bO;exact⟨_,rfl,aV,aW,rfl,aX,bP,K0⟩
end
section
attribute [local irreducible] A6 EG AL AN
structure Bn (v:MV)(s:Gc):Prop where
 ok:IY v
 ent:Ez v.ent
 cap:v.ent.length<=s.ec
section
variable {ms ms2:List Ab}{cl cl2:List Ah}{es es2:List Aj}
def M0 (h:(AW ms cl ms2 cl2).1=0):EO (AW ms cl ms2 cl2).2.1 (AW ms cl ms2 cl2).2.2:=by
 by_cases hc:BL ms cl=true/\BL ms2 cl2=true
 ·have hA:=Fy.1 hc.1;have hB:=Fy.1 hc.2;have hM:∀m∈ms++ms2,AD m.d:=λm hm=>(List.mem_append.1 hm).elim (λh=>hA.may h) (λh=>hB.may h)
  have hD:∀d∈cl++cl2,AD d:=λd hd=>(List.mem_append.1 hd).elim (λh=>hA.mayC h) (λh=>hB.mayC h)
  have hp:=RR hM hD;obtain⟨hcn,hcv⟩:=H3 hp.1 hp.2;rw[Ge hc.1 hc.2]at h⊢;by_cases hl:64<(Cu (ms++ms2) (cl++cl2)).1.length\/64<(Cu (ms++ms2) (cl++cl2)).2.length
  ·rw[(Gf hM hD).1 hl]at h;exact absurd h Zd
  rw[(Gf hM hD).2 hl];have hmay:=hcn.may (λd hd=>by
   obtain⟨h1,h2⟩:=(hcv d).1 hd;rcases h2 with⟨m,hm,ha,hle⟩|h2
   ·have:=hM m hm
    simp only[AD,Ab.d,Ah.a,AZ.mk.injEq]at*;omega
   exact hD d h2)
  exact hcn.can Zo Zo hmay.1 hmay.2
 rw[Pa hc]at h;exact absurd h Zd
def QH (h:(B0 ms cl es ms2 cl2 es2).1=0):(AW ms cl ms2 cl2).1=0/\(B0 ms cl es ms2 cl2 es2).2.1=(AW ms cl ms2 cl2).2:=by
 by_cases h1:Bl ms cl es=0
 ·by_cases h2:Bl ms2 cl2 es2=0
  ·by_cases h3:(AW ms cl ms2 cl2).1=0
   ·by_cases h4:64<(BO ms cl es ms2 cl2 es2).length\/32<itemsN (BO ms cl es ms2 cl2 es2)
    ·rw[IK h1 h2 h3 h4]at h;exact absurd h Zd
    by_cases h5:GP es es2
    ·rw[Kl h1 h2 h3 h4 h5]at h;exact absurd h Zd
    rw[IL h1 h2 h3 h4 h5];exact⟨h3,rfl⟩
   rw[Kk h1 h2 h3]at h;exact absurd h h3
  rw[Kj h1 h2]at h;exact absurd h h2
 rw[Ki h1]at h;exact absurd h h1
def joinC_lens :(B0 ms cl es ms2 cl2 es2).2.1.1.length<=64/\(B0 ms cl es ms2 cl2 es2).2.1.2.length<=64:=by
 by_cases h1:Bl ms cl es=0
 ·by_cases h2:Bl ms2 cl2 es2=0
  ·by_cases h3:(AW ms cl ms2 cl2).1=0
   ·by_cases h4:64<(BO ms cl es ms2 cl2 es2).length\/32<itemsN (BO ms cl es ms2 cl2 es2)
    ·rw[IK h1 h2 h3 h4];exact⟨Aal _,Aal _⟩
    by_cases h5:GP es es2
    ·rw[Kl h1 h2 h3 h4 h5];exact⟨Aal _,Aal _⟩
    rw[IL h1 h2 h3 h4 h5];exact Jq
   rw[Kk h1 h2 h3];exact⟨Aal _,Aal _⟩
  rw[Kj h1 h2];exact⟨Aal _,Aal _⟩
 rw[Ki h1];exact⟨Aal _,Aal _⟩
end
noncomputable def FO (a b:MV):Int:=(B0 a.mrk a.cl a.ent b.mrk b.cl b.ent).1
noncomputable def B3 (a b:MV):MV:={nilV with ent:=(B0 a.mrk a.cl a.ent b.mrk b.cl b.ent).2.2,mrk:=(B0 a.mrk a.cl a.ent b.mrk b.cl b.ent).2.1.1,cl:=(B0 a.mrk a.cl a.ent b.mrk b.cl b.ent).2.1.2}
noncomputable def Dr (a:MV):Int:=Bl a.mrk a.cl a.ent
def iv (a:MV):Prop:=EO a.mrk a.cl
def Tp {a b:MV}(h:FO a b=0):iv (B3 a b):=by
 obtain⟨h1,h2⟩:=QH h;show EO (B0 a.mrk a.cl a.ent b.mrk b.cl b.ent).2.1.1 (B0 a.mrk a.cl a.ent b.mrk b.cl b.ent).2.1.2
 rw[h2];exact M0 h1
def VN {w:World}{a b:MV}{s:Gc}(ha:Ez a.ent)(hb:Ez b.ent)(h:DF w s (B3 a b)):Bn (B3 a b) s:=
 ⟨⟨by have:(B3 a b).ent.length<=64:=joinC_len;omega,by have:(B3 a b).mrk.length<=64:=joinC_lens.1;omega,by have:(B3 a b).cl.length<=64:=joinC_lens.2;omega,Aal _,Aal _,Aal _⟩,Ez.kept ha hb,h.ent.le_cap⟩
def iv.nil :iv nilV:=⟨Aal _,Aal _,λi m h=>by simp[nilV]at h,λi m h=>by simp[nilV]at h⟩
def VO (v:MV)(s:Gc)(w:World)(hR:Bi w s v)(ho:Bn v s):Calls prog 35 #[.agg #[.slice s.ea v.ent.length s.ec,.slice s.ma v.mrk.length s.mc,.slice s.ca v.cl.length s.cc]] w (AU λr w'=>r= .int .i64 (Dr v)/\As w w'):=by
 unfold Dr;exact R1 s.ma v.mrk s.mc s.ca v.cl s.cc s.ea v.ent s.ec w ho.cap hR.mrk hR.cl hR.ent ho.ok.mrk ho.ok.cl ho.ok.ent ho.ent
def ZB (a b:MV)(s t:Gc)(w:World)(hA:Bi w s a)(hB:Bi w t b)(hoa:Bn a s)(hob:Bn b t):Calls prog 83 #[.agg #[.slice s.ea a.ent.length s.ec,.slice s.ma a.mrk.length s.mc,.slice s.ca a.cl.length s.cc],.agg #[.slice t.ea b.ent.length t.ec,.slice t.ma b.mrk.length t.mc,.slice t.ca b.cl.length t.cc]] w (AU λr w'=>∃s',r= .tuple #[.agg #[.slice (((CY (B3 a b) s').cart).entries.a) (((CY (B3 a b) s').cart).entries.len) (((CY (B3 a b) s').cart).entries.cap),.slice ((((CY (B3 a b) s').cart).ctx).marks.a) ((((CY (B3 a b) s').cart).ctx).marks.len) ((((CY (B3 a b) s').cart).ctx).marks.cap),.slice ((((CY (B3 a b) s').cart).ctx).cloud.a) ((((CY (B3 a b) s').cart).ctx).cloud.len) ((((CY (B3 a b) s').cart).ctx).cloud.cap)],.int .i64 (FO a b)]/\DF w' s' (B3 a b)/\IM s'/\(∀q,EH s' q->w.heap.size<=q)/\As w w'):=by
 refine(Zz s.ma a.mrk s.mc s.ca a.cl s.cc s.ea a.ent s.ec t.ma b.mrk t.mc t.ca b.cl t.cc t.ea b.ent t.ec w hoa.cap hob.cap hA.mrk hA.cl hA.ent hB.mrk hB.cl hB.ent hoa.ok.mrk hoa.ok.cl hoa.ok.ent hob.ok.mrk hob.ok.cl hob.ok.ent hoa.ent hob.ent).mono ?_;rintro e_ w_ ⟨r_,h1,ae,ce,am,cm,ac,cc,hv,he,hm,hc,a1,a2,a3,g1,g2,g3,K⟩;refine⟨r_,h1,⟨ae,ce,am,cm,ac,cc,none,0,none,0,none,0⟩,?_,?_,⟨a1,a2,a3⟩,?_,K⟩
 ·rw[hv];unfold B3 FO;rfl
 ·unfold B3;exact⟨he,hm,hc⟩
 rintro q (h|h|h)
 ·exact g1 q h
 ·exact g2 q h
 exact g3 q h
def Cv (v:MV):List UInt8:=Lw v.ent++DG v.mrk v.cl
def CK (key:ByteArray)(v:MV):List UInt8:=([UInt8.ofNat 2]:List UInt8)++AL key++Cv v
def iw (v:MV)(s:Gc)(w:World)(hR:Bi w s v)(ho:Bn v s)(hc:Dr v=0):Calls prog 87 #[.agg #[.slice s.ea v.ent.length s.ec,.slice s.ma v.mrk.length s.mc,.slice s.ca v.cl.length s.cc]] w (AU λr w'=>∃a' c',r= .tuple #[.slice a' (Cv v).length c',.int .i64 0]/\Af w' 5 a' c' (Cv v)/\(∀q,own a' q->w.heap.size<=q)/\As w w'):=
 iu s.ma v.mrk s.mc s.ca v.cl s.cc s.ea v.ent s.ec w ho.cap hR.mrk hR.cl hR.ent ho.ok.mrk ho.ok.cl ho.ok.ent ho.ent hc
def Hc {v:MV}(hb:Ez v.ent)(hc:Dr v=0):(Cv v).length<=9000:=by
 have hC:=Ey hc;have h64:=hC.len;have hen:∀x∈v.ent,entN x:=λx hx=>by
  obtain⟨j,hj⟩:=Abm hx;exact(hC.ent j x hj).entN hC.ctx (hb x hx).1
 have h1:=Bb (n:=v.ent.length) Zo;have h2:=Ek (f:=AN) (m:=85) (l:=v.ent) λy hy=>H4 (hen y hy)
 have h3:(Gk (v.mrk.map Ab.d)).length<=9+27*(v.mrk.map Ab.d).length:=Ly (λd hd=>by obtain⟨m,hm,rfl⟩:=List.mem_map.1 hd;exact(hC.ctx.may hm).nn) (by rw[Aad];have:=hC.ctx.1;omega);have h4:=Ly (l:=v.cl) (λd hd=>(hC.ctx.mayC hd).nn) (by have:=hC.ctx.2.1;omega);have h5:=hC.ctx.1;have h6:=hC.ctx.2.1;rw[Aad]at h3;simp only[Cv,Lw,DG,Aab];omega
attribute [local irreducible] Cv X
def FD (v:MV)(s:Gc)(w:World)(hR:Bi w s v)(hv:IY v):
  Calls prog 38 #[.agg #[.slice s.ea v.ent.length s.ec,.slice s.ma v.mrk.length s.mc,.slice s.ca v.cl.length s.cc]] w (AU (λr w'=>∃s',r= .agg #[.slice s'.ea v.ent.length s'.ec,.slice s'.ma v.mrk.length s'.mc,.slice s'.ca v.cl.length s'.cc]/\DF w' s' v/\IM s'/\(∀q,EH s' q->w.heap.size<=q)/\As w w')):=by
 have hv0:=hv;obtain⟨hv1,hv2,hv3,hv4,hv5,hv6⟩:=hv;refine kD (n:=16) func38 ?_;refine kQ ?_;intro an aA al a1 am;have:w.heap.size<=an:=al;clear al;have K0:=(am:As w _);refine kR ?_;intro aB aC a7 a0 ag;have aD:=Ak a1.lt a7;replace hR:=hR.ext am;have ao:=An hR.oL a7;have:=Aaa K0.size a7;clear a7;refine jG ?_;refine Ai.drawS [13] [0,1001,3,4,1005,7,8,1009,2002,2006,2010,11,12,2013] ?_;intro aE a8;replace a1:=(a1.ext ag).ext a8;refine kF (jb a1 Jn) ?_;replace hR:=(hR.ext ag).ext a8;refine jU rfl<|jC (MG _ _ _ _ hR.ent Zo) ?_;rintro _ aF ⟨ah,ai,rfl,a2,aj,a9⟩;replace a0:=a0.ext a8;have ap:=Ay aj a0.lt;replace K0:=(K0.ext ag).ext a8;have aq:=Bg K0.size aj;clear aj;replace a1:=a1.ext a9;refine jG ?_;replace hR:=hR.ext a9;refine jU rfl<|jC (Hq _ _ _ _ hR.mrk Zo) ?_;rintro _ aG ⟨aa,ab,rfl,ac,ad,a4⟩;replace a0:=a0.ext a9;have ar:=Ay ad a0.lt;have au:=Ag ad a2.oL;replace K0:=K0.ext a9;have av:=Bg K0.size ad;clear ad;replace a1:=a1.ext a4;refine jG ?_;replace hR:=hR.ext a4;refine jU rfl<|jC (NF _ _ _ _ hR.cl Zo) ?_;rintro _ aH ⟨ae,af,rfl,ak,a5,a3⟩;replace a0:=a0.ext a4;have aw:=Ay a5 a0.lt;replace a2:=a2.ext a4;have ax:=Ag a5 a2.oL;have ay:=Ag a5 ac.oL;replace K0:=K0.ext a4;have az:=Bg K0.size a5;clear a5;replace a1:=a1.ext a3;refine jG ?_;refine jP ?_ (hx:=by exact λ_=>(AO (cells:=#[.slice aa v.mrk.length ab,.slice ae v.cl.length af]) Zk));refine jP ?_ (hx:=by exact λ_=>(AO (cells:=#[.slice ah v.ent.length ai,.slice aa v.mrk.length ab,.slice ae v.cl.length af]) Zk));replace a0:=a0.ext a3;refine jU rfl<|jS a0 ?_;intro aI a0 a6;refine jG ?_;refine Ai.retC (cs:=#[.slice ah v.ent.length ai,.slice aa v.mrk.length ab,.slice ae v.cl.length af]) func38 rfl ty33 rfl rfl a0.cl ?_;replace hR:=(hR.ext a3).kO a6 (Aa ao);replace a2:=(a2.ext a3).kO a6 (Aa ap);replace ac:=(ac.ext a3).kO a6 (Aa ar);replace K0:=(K0.ext a3).n1 a6;replace ak:=ak.kO a6 (Aa aw)
 exact⟨_,rfl,⟨ah,ai,aa,ab,ae,af,none,0,none,0,none,0⟩,rfl,⟨a2,ac,ak⟩,⟨(Zf au),(Zf ax),(Zf ay)⟩,λq hq=>by
  rcases hq with hq|hq|hq
  ·exact aq q hq
  ·exact av q hq
  exact az q hq,K0⟩
def iy (w:World):
  Calls prog 61 #[.int .i64 2,.slice none 0 0] w (AU (λv w'=>∃a' c',v= .slice a' ([UInt8.ofNat 2]:List UInt8).length c'/\Af w' 5 a' c' ([UInt8.ofNat 2]:List UInt8)/\(∀q,own a' q->w.heap.size<=q)/\As w w')):=by
 refine kD (n:=22) func61 ?_;refine jV (ES (a:=2) rfl ⟨_,underlying3⟩ underlying5) ?_;refine jR<|AB.buildSlice ([UInt8.ofNat 2]:List UInt8) underlying98 ty5 rfl rfl Ze ?_;intro a1 a5 a0 a2 a3;have a4:=Bg (Aac _) (Du a0);clear a0;have K0:=(a3:As w _);refine ET ?_;refine kE (AA (c:=0) (CM underlying185 rfl) rfl) ?_;refine Ai.unloop ?_;refine kG ?_;refine jJ func61 ?_;exact⟨_,rfl,(some ⟨a1,0,none⟩),([UInt8.ofNat 2]:List UInt8).length,rfl,a2,a4,K0⟩
def LA (key:ByteArray)(v:MV)(s:Gc)(w:World)(hR:Bi w s v)(hok:Bn v s)(hc:Dr v=0)(hk:key.size<=32):
  Calls prog 39 #[.string key,.agg #[.slice s.ea v.ent.length s.ec,.slice s.ma v.mrk.length s.mc,.slice s.ca v.cl.length s.cc]] w (AU (λr w'=>∃a' c',r= .tuple #[.slice a' (CK key v).length c',.int .i64 0]/\Af w' 5 a' c' (CK key v)/\(∀q,own a' q->w.heap.size<=q)/\As w w')):=by
 have hL:(([UInt8.ofNat 2]:List UInt8)++AL key).length=1+(AL key).length:=by rw[Aab];rfl
 have hel:=Hc hok.ent hc;have htl:(AL key).length<=41:=by
  have h7:key.data.toList.length=key.size:=by rw[AaA];rfl
  have h5:=Bb (n:=key.size) Zo;unfold AL;rw[Aab,h7];omega
 refine kD (n:=21) func39 ?_;refine kQ ?_;intro ab am a3 an a4;have:w.heap.size<=ab:=a3;clear a3;have K0:=(a4:As w _);refine jG ?_;replace hR:=hR.ext a4;refine kS (iw v s _ hR hok hc) ?_;rintro _ ao ⟨ap,aq,rfl,a0,ac,a5⟩;clear ac;refine kG ?_;refine kS (iy _) ?_;rintro _ ar ⟨ad,ae,rfl,af,ag,a1⟩;clear ag;refine jG ?_;refine kS (Lz ad ([UInt8.ofNat 2]:List UInt8) ae key _ af.sl (by first|omega|(simp only[Aab,Aaj,Aas];omega)) Zo) ?_;rintro _ au ⟨av,aw,rfl,ah,a2,a6⟩;replace hR:=(hR.ext a5).ext a1;have ax:=Ag a2 hR.oL;replace K0:=(K0.ext a5).ext a1;have a7:=Bg K0.size a2;clear a2;refine jG ?_;replace a0:=(a0.ext a1).ext a6;refine jR<|AB.append (xs:=([UInt8.ofNat 2]:List UInt8)++AL key) (ys:=Cv v) underlying98 ty5 rfl rfl rfl ah a0.sl Zr Zd ?_;intro a8 ai ay a9 aj aa ak;replace K0:=K0.ext a6;have al:∀q_,own a8 q_->w.heap.size<=q_:=aa.ge a7 K0.size;clear aa;clear ak;refine kM func39 ?_;have e_:(([UInt8.ofNat 2]:List UInt8)++AL key)++Cv v=CK key v:=rfl;rw[e_]at a9⊢;replace K0:=K0.new aj a7;exact⟨_,rfl,a8,ai,rfl,a9,al,K0⟩
end
section
attribute [local irreducible] A6 EG AL AN Cv CK
structure Kc where
 key:ByteArray
 v:MV
 s:Gc
def Kc.kv (t:Kc):ByteArray×Value:=(t.key,.agg #[.slice t.s.ea t.v.ent.length t.s.ec,.slice t.s.ma t.v.mrk.length t.s.mc,.slice t.s.ca t.v.cl.length t.s.cc])
noncomputable def wN :Option MV->MV->Int
 |none,_=>0
 |some a,v=>FO a v
noncomputable def wV :Option MV->MV->MV
 |none,v=>v
 |some a,v=>B3 a v
end
section
attribute [local irreducible] A6 EG AL AN Cv CK wV B3
def Bc {s:ByteArray}(h:AK s=true):s.size<=32:=by
 rw[AK,Aao,decide_eq_true_eq]at h;exact h.1.2
def Tq {s:ByteArray}{i:Nat}(hno:GS Jp s.data.toList i)(hi:s.data.toList.length<=i):(!decide (s=⟨#[]⟩)&&decide ((s.size:Int)<=32))=AK s:=by
 rw[AK,Ui hno hi,AaD];simp only[Aao,AaH,decide_eq_false_iff_not,decide_eq_true_eq,Bool.not_false,and_true,ne_eq];constructor
 ·rintro⟨h1,h2⟩;exact⟨h1,by omega⟩
 rintro⟨h1,h2⟩;exact⟨h1,by omega⟩
def Ps (a b:MV):Bool:=(decide (a.ent=b.ent)&&decide (a.mrk=b.mrk))&&decide (a.cl=b.cl)
attribute [irreducible] Ps
attribute [local irreducible] X
def GF (s:ByteArray)(w:World)(hl:s.size<=4294967295):
  Calls prog 34 #[.string s] w (AU (λv w'=>v= .bool (AK s)/\As w w')):=by
 have hdl:=Gv s;refine kD (n:=54) func34 ?_;refine jR<|AB.bytes underlying9 underlying98 underlying5 rfl ?_;intro a1 a3 a6 a7 a0 a4;have K0:=(a4:As w _);refine jG ?_;refine Ai.loop (ι:=Nat) (λi ρ' w'=>Holds ρ' [(0,.string s),(6,.slice (some ⟨a1,0,none⟩) s.data.toList.length a3),(7,.int .i64 ((s.data.toList.length:Nat):Int)),(8,.int .i64 ((i:Nat):Int))]/\As w w'/\(Ax w' (some ⟨a1,0,none⟩) s.data.toList)/\(i<=s.size)/\(GS Jp s.data.toList i)) (λi=>s.size-i) 0 ?_ ?_
 ·refine⟨⟨rfl,rfl,rfl,rfl,trivial⟩,K0,a0,?_,?_⟩
  ·omega
  exact GS.zero _ _
 clear K0;rintro i a8 a9 ⟨a2,K0,a0,hi,hno⟩ ih1;obtain⟨ρ₀,rfl⟩:=a2.ex;clear a2;refine kK ?_ ?_
 ·intro hc9;refine Et ?_;obtain⟨aa,ab,c,hx,a5,ac⟩:=a0.el (i:=i) (by rw[Gv];omega);refine kE (AY underlying98 ty5 rfl rfl a5 (by rw[Gv];omega)) ?_;refine kE (Bo rfl rfl rfl) ?_;refine kE (Bo rfl rfl rfl) ?_;refine jW ?_ (hx:=by exact λhg=>(Kw hg rfl rfl rfl));refine kE (Bo rfl rfl rfl) ?_;refine jW ?_ (hx:=by exact λhg=>(Kw hg rfl rfl rfl));refine kE (Bo rfl rfl rfl) ?_;refine jW ?_ (hx:=by exact λhg=>(Kw hg rfl rfl rfl));refine kE (Bo rfl rfl rfl) ?_;refine jF ?_ ?_
  ·intro hc45;refine kL func34 ?_;exact⟨_,rfl,by rw[Tg hx (by simp only[Jp,decide_eq_true_eq];omega)],K0⟩
  intro hc45;refine jG ?_;refine kC i ?_;refine ih1 (i+1) _ _ ?_ Zo;refine⟨⟨rfl,rfl,rfl,rfl,trivial⟩,K0,a0,?_,?_⟩
  ·omega
  exact hno.step hx (by simp only[Jp,decide_eq_false_iff_not];omega)
 intro hc9;refine jG ?_;refine kE (Q8 rfl rfl) ?_;refine jW ?_ (hx:=by exact λhg=>(DT underlying9 (B4 hg)));refine jG ?_;refine kE (Bo rfl rfl rfl) ?_;refine jJ func34 ?_;exact⟨_,rfl,congrArg Value.bool (Tq hno (by rw[Gv];omega)),K0⟩
def ZC (a b:MV)(s t:Gc)(w:World)(hR:Bi w s a)(hQ:Bi w t b)(hv:IY a):
  Calls prog 37 #[.agg #[.slice s.ea a.ent.length s.ec,.slice s.ma a.mrk.length s.mc,.slice s.ca a.cl.length s.cc],.agg #[.slice t.ea b.ent.length t.ec,.slice t.ma b.mrk.length t.mc,.slice t.ca b.cl.length t.cc]] w (AU (λv w'=>v= .bool (Ps a b)/\As w w')):=by
 have hv0:=hv;obtain⟨hv1,hv2,hv3,hv4,hv5,hv6⟩:=hv;refine kD (n:=28) func37 ?_;refine kQ ?_;intro a8 aa a7 a0 a5;have:w.heap.size<=a8:=a7;clear a7;have K0:=(a5:As w _);refine kQ ?_;intro ab ac a6 a3 a4;have ad:=Ak a0.lt a6;have:=Aaa K0.size a6;clear a6;replace a0:=a0.ext a4;refine jG ?_;replace hR:=(hR.ext a5).ext a4;replace hQ:=(hQ.ext a5).ext a4;refine kS (MF _ _ _ _ _ _ _ hR.ent hQ.ent Zo) ?_;rintro _ ae ⟨rfl,a1⟩;replace a0:=a0.ext a1;replace a3:=a3.ext a1;refine jG ?_;replace hR:=hR.ext a1;replace hQ:=hQ.ext a1;refine RL.gcall (vals:=[.slice s.ma a.mrk.length s.mc,.slice t.ma b.mrk.length t.mc]) (BX rfl rfl rfl rfl) en67.h (λhg=>(C2 (B4 hg) (C2 (B4 hg) HC))) (λhg=>(Jm _ _ _ _ _ _ _ hR.mrk hQ.mrk Zo)) ?_;intro af a2;refine jV (Bo rfl rfl rfl) ?_;replace a0:=a0.ext a2;replace a3:=a3.ext a2;refine jG ?_;replace hR:=hR.ext a2;replace hQ:=hQ.ext a2;refine RL.gcall (vals:=[.slice s.ca a.cl.length s.cc,.slice t.ca b.cl.length t.cc]) (BX rfl rfl rfl rfl) en84.h (λhg=>(C2 (B4 hg) (C2 (B4 hg) HC))) (λhg=>(RI _ _ _ _ _ _ _ hR.cl hQ.cl Zo)) ?_;intro ag a9;refine kE (Bo rfl rfl rfl) ?_;refine jJ func37 ?_;replace K0:=(((K0.ext a4).ext a1).ext a2).ext a9;exact⟨_,rfl,by unfold Ps;rfl,K0⟩
def VP (b lg m1 m2 m3:Nat)(s:Int)(w:World)(hb:AC w b [.int .i32 0,.int .u32 0,jp lg,.int .i64 s,.map (some m1),.map (some m2),.map (some m3)] 94):
  Calls prog 20 #[jp b] w (AU (λv w'=>v= .int .i64 s/\AC w' b [.int .i32 0,.int .u32 0,jp lg,.int .i64 s,.map (some m1),.map (some m2),.map (some m3)] 94/\Ae (one b) w w')):=by
 refine kD (n:=13) func20 ?_;refine kS (BA _ _ _ _ _ _ _ hb) ?_;rintro _ a0 ⟨rfl,a1,a3⟩;have K0:=(Ae.refl (one b) w).tf a3 rfl;replace hb:=a1;clear a1;refine kE (Bp (b:=true) rfl) ?_;refine kH ?_;refine RL.defer (vals:=[jp b]) rfl ?_;refine jG ?_;refine Ai.retU muLib func20 rfl (λ_=>Bw rfl rfl) hb.cellH (hb.thawH 0) ?_;obtain⟨a2,hwU_⟩:∃w_,w_=a0.setCell ⟨b,0,none⟩ (.int .i32 0):=⟨_,rfl⟩;rw[<-hwU_];have hbU_:AC a2 b [.int .i32 0,.int .u32 0,jp lg,.int .i64 s,.map (some m1),.map (some m2),.map (some m3)] 94:=hwU_▸hb.setH;have a4:Ae (one b) a0 a2:=hwU_▸AP _ _ _ _;replace K0:=K0.tf a4 rfl;replace hb:=hbU_;exact⟨_,rfl,rfl,hb,K0⟩
end
end Go.Proofs.YtjkaicjmfgekjaaGreatDoor
